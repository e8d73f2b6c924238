/- The law AuctionBest, walked. -/
import Derived.Test.YtkcoemikglbomaaP1
namespace Go.Proofs.Ytkcoemikglbomaa
open Go Go.Sk Go.RowKit
attribute [local irreducible] Go.Calls
def metTo (l : List Bid) (c wm : Int) (i : Bool) : Nat → Bool
  | 0 => i
  | k + 1 => metTo l c wm i k || (((l.getD k default).acct != c) && ((l.getD k default).amount == wm))
theorem metTo_true {l : List Bid} {c wm : Int} {i : Bool} : ∀ n, (i = true ∨ ∃ j, j < n ∧ (l.getD j default).acct ≠ c ∧ (l.getD j default).amount = wm) → metTo l c wm i n = true
  | 0, h => by exact h.elim id (fun ⟨j, hj, _⟩ => by omega)
  | n + 1, h => by
    rw [metTo]
    rcases h with h | ⟨j, hj, h1, h2⟩
    · rw [metTo_true n (.inl h)]; rfl
    · by_cases hjn : j = n
      · subst hjn; rw [h2]; simp only [bne_iff_ne, ne_eq, h1, not_false_eq_true, beq_self_eq_true, Bool.and_self, Bool.or_true, Bool.and_true, Bool.or_eq_true, or_true]
      · rw [metTo_true n (.inr ⟨j, by omega, h1, h2⟩)]; rfl
theorem win_at {a : Option Addr} {cap : Nat} (x : Auc) (W : Bid) (s : Bool) (hv : winF x = (W, s)) {F : Frag} {w0 : World} (hF : Mem w0 F) (hs : Bids F a cap x.bids) :
    Calls Try.prog 18 [.agg (x.cells a cap).toArray].toArray w0 (Ret (.tuple #[.agg W.cells.toArray, .bool s]) w0) := by
  have h := c_Winner x w0 hF hs
  rw [hv] at h
  exact h
theorem top_at {a : Option Addr} {cap : Nat} (x : Auc) (W : Bid) (s : Bool) (hv : topF x = (W, s)) {F : Frag} {w0 : World} (hF : Mem w0 F) (hs : Bids F a cap x.bids) :
    Calls Try.prog 21 [.agg (x.cells a cap).toArray].toArray w0 (Ret (.tuple #[.agg W.cells.toArray, .bool s]) w0) := by
  have h := c_Top x w0 hF hs
  rw [hv] at h
  exact h
theorem may_at {a : Option Addr} {cap : Nat} (x : Auc) (s : Bool) (hv : mayF x = s) {F : Frag} {w0 : World} (hF : Mem w0 F) (hs : Bids F a cap x.bids) :
    Calls Try.prog 17 [.agg (x.cells a cap).toArray].toArray w0 (Ret (.bool s) w0) := hv ▸ c_May x w0 hF hs
set_option maxHeartbeats 4000000 in
theorem c_Best {a : Option Addr} {cap : Nat} (x : Auc) {F : Frag} (w0 : World) (hF : Mem w0 F) (hs : x.bids.length ≤ 100 → Bids F a cap x.bids) :
    Calls Try.prog 6 [.agg (x.cells a cap).toArray].toArray w0 (Ret (.bool true) w0) := by
  refine enter [.tmp 2] Try.func6 rfl Try.ntmps6 rfl rfl ?_
  have H := St.start w0
  repeat' (first
      | ((with_reducible apply OW.p sg); exact rfl; exact rfl; exact rfl; exact rfl)
      | ((with_reducible apply QW.p sg); exact rfl; exact rfl; exact rfl; exact rfl)
      | ((with_reducible apply OW.go); exact rfl)
      | ((with_reducible apply QW.go); exact rfl)
      | ((with_reducible apply OX.pure sg); exact rfl; exact rfl; exact rfl)
      | ((with_reducible apply QX.pure sg); exact rfl; exact rfl; exact rfl)
      | ((with_reducible apply OX.val); exact rfl; exact rfl; exact Yq.loadS sg rfl rfl H.mem (by first | exact List.Mem.head _ | exact List.Mem.tail _ (List.Mem.head _) | exact List.Mem.tail _ (List.Mem.tail _ (List.Mem.head _)) | exact List.Mem.tail _ (List.Mem.tail _ (List.Mem.tail _ (List.Mem.head _))) | exact List.Mem.tail _ (List.Mem.tail _ (List.Mem.tail _ (List.Mem.tail _ (List.Mem.head _)))) | (repeat (first | exact List.Mem.head _ | refine List.Mem.tail _ ?_))) rfl rfl)
      | ((with_reducible apply QX.val); exact rfl; exact rfl; exact Yq.loadS sg rfl rfl H.mem (by first | exact List.Mem.head _ | exact List.Mem.tail _ (List.Mem.head _) | exact List.Mem.tail _ (List.Mem.tail _ (List.Mem.head _)) | exact List.Mem.tail _ (List.Mem.tail _ (List.Mem.tail _ (List.Mem.head _))) | exact List.Mem.tail _ (List.Mem.tail _ (List.Mem.tail _ (List.Mem.tail _ (List.Mem.head _)))) | (repeat (first | exact List.Mem.head _ | refine List.Mem.tail _ ?_))) rfl rfl)
      | (refine OX.box H rfl rfl rfl rfl rfl ?_; intro b w H _)
      | (refine OX.alloc sg H rfl rfl rfl rfl rfl ?_; intro b w H _)
      | ((with_reducible apply OX.store sg H); exact rfl; exact rfl; exact rfl; exact rfl; exact rfl; exact rfl; (repeat (first | exact Up.here | apply Up.there)); exact rfl; exact rfl; exact rfl; exact rfl; intro w H)
      | ((with_reducible apply RW.nil); exact rfl)
      | ((with_reducible apply OX.call); exact rfl; exact rfl; exact En.fn ent12 rfl rfl; exact c_awake _; intro w hcl; replace H := H.ext hcl; clear hcl)
      | ((with_reducible apply QX.call); exact rfl; exact rfl; exact En.fn ent12 rfl rfl; exact (fun _ hcl => c_awake _))
      | ((with_reducible apply OW.gY); exact rfl; exact rfl; exact rfl)
      | ((with_reducible apply OW.gN); exact rfl; exact rfl; exact rfl; exact rfl; exact rfl)
      | ((with_reducible apply QW.gY); exact rfl; exact rfl; exact rfl)
      | ((with_reducible apply QW.gN); exact rfl; exact rfl; exact rfl; exact rfl; exact rfl)
      | ((with_reducible apply OW.gS); exact rfl; exact rfl; exact rfl; all_goals intro h)
      | ((with_reducible apply QW.gS); exact rfl; exact rfl; exact rfl; all_goals intro h)
      | with_reducible apply OW.app
      | with_reducible apply OW.app0
      | with_reducible apply QW.app
      | with_reducible apply QW.app0
      | with_reducible apply OW.nil
      | ((with_reducible apply QW.nil); intro w hcl; replace H := H.ext hcl; clear hcl)
      | ((with_reducible apply RW.one); exact rfl; decide +kernel)
      | with_reducible apply thn_n
      | with_reducible apply CW.seq
      | with_reducible apply CW.region
      | ((with_reducible apply CW.regionD mixed); decide +kernel)
      | with_reducible apply CW.block
      | with_reducible apply CW.ret
      | with_reducible apply CW.exit
      | with_reducible apply CW.skip
      | with_reducible apply thn_r
      | with_reducible apply thn_e
      | with_reducible apply blk_n
      | with_reducible apply blk_r
      | ((with_reducible apply blk_e1); exact rfl)
      | ((with_reducible apply blk_e0); exact rfl)
      | ((with_reducible apply CW.condT); exact rfl)
      | ((with_reducible apply CW.condF); exact rfl))
  · exact ret1 rfl H.cl rfl
  have hlen : x.bids.length ≤ 100 := by have := of_decide_eq_false h; omega
  have hs0 := hs hlen
  clear hs
  obtain ⟨hn, hc, b0, off, cs, T, fr, hs⟩ := id hs0
  rcases (Bool.eq_false_or_eq_true (mayF x)).symm with hm | hm
  · have hw : winF x = (Bid.zero, false) := by simp [winF, hm]
    repeat' (first
        | ((with_reducible apply OW.p sg); exact rfl; exact rfl; exact rfl; exact rfl)
        | ((with_reducible apply QW.p sg); exact rfl; exact rfl; exact rfl; exact rfl)
        | ((with_reducible apply OW.go); exact rfl)
        | ((with_reducible apply QW.go); exact rfl)
        | ((with_reducible apply OX.pure sg); exact rfl; exact rfl; exact rfl)
        | ((with_reducible apply QX.pure sg); exact rfl; exact rfl; exact rfl)
        | ((with_reducible apply OX.val); exact rfl; exact rfl; exact Yq.loadS sg rfl rfl H.mem (by first | exact List.Mem.head _ | exact List.Mem.tail _ (List.Mem.head _) | exact List.Mem.tail _ (List.Mem.tail _ (List.Mem.head _)) | exact List.Mem.tail _ (List.Mem.tail _ (List.Mem.tail _ (List.Mem.head _))) | exact List.Mem.tail _ (List.Mem.tail _ (List.Mem.tail _ (List.Mem.tail _ (List.Mem.head _)))) | (repeat (first | exact List.Mem.head _ | refine List.Mem.tail _ ?_))) rfl rfl)
        | ((with_reducible apply QX.val); exact rfl; exact rfl; exact Yq.loadS sg rfl rfl H.mem (by first | exact List.Mem.head _ | exact List.Mem.tail _ (List.Mem.head _) | exact List.Mem.tail _ (List.Mem.tail _ (List.Mem.head _)) | exact List.Mem.tail _ (List.Mem.tail _ (List.Mem.tail _ (List.Mem.head _))) | exact List.Mem.tail _ (List.Mem.tail _ (List.Mem.tail _ (List.Mem.tail _ (List.Mem.head _)))) | (repeat (first | exact List.Mem.head _ | refine List.Mem.tail _ ?_))) rfl rfl)
        | (refine OX.box H rfl rfl rfl rfl rfl ?_; intro b w H _)
        | (refine OX.alloc sg H rfl rfl rfl rfl rfl ?_; intro b w H _)
        | ((with_reducible apply OX.store sg H); exact rfl; exact rfl; exact rfl; exact rfl; exact rfl; exact rfl; (repeat (first | exact Up.here | apply Up.there)); exact rfl; exact rfl; exact rfl; exact rfl; intro w H)
        | ((with_reducible apply RW.nil); exact rfl)
        | ((with_reducible apply OX.call); exact rfl; exact rfl; exact En.fn ent18 rfl rfl; exact win_at x Bid.zero false hw (H.memF hF) hs0; intro w hcl; replace H := H.ext hcl; clear hcl)
        | ((with_reducible apply QX.call); exact rfl; exact rfl; exact En.fn ent18 rfl rfl; exact (fun _ hcl => win_at x Bid.zero false hw ((H.ext hcl).memF hF) hs0))
        | ((with_reducible apply OX.call); exact rfl; exact rfl; exact En.fn ent17 rfl rfl; exact may_at x false hm (H.memF hF) hs0; intro w hcl; replace H := H.ext hcl; clear hcl)
        | ((with_reducible apply QX.call); exact rfl; exact rfl; exact En.fn ent17 rfl rfl; exact (fun _ hcl => may_at x false hm ((H.ext hcl).memF hF) hs0))
        | ((with_reducible apply OX.val); exact rfl; exact rfl; exact Yq.eqlBid Bid.zero Bid.zero rfl rfl rfl)
        | ((with_reducible apply QX.val); exact rfl; exact rfl; exact Yq.eqlBid Bid.zero Bid.zero rfl rfl rfl)
        | ((with_reducible apply OW.gY); exact rfl; exact rfl; exact rfl)
        | ((with_reducible apply OW.gN); exact rfl; exact rfl; exact rfl; exact rfl; exact rfl)
        | ((with_reducible apply QW.gY); exact rfl; exact rfl; exact rfl)
        | ((with_reducible apply QW.gN); exact rfl; exact rfl; exact rfl; exact rfl; exact rfl)
        | ((with_reducible apply OW.gS); exact rfl; exact rfl; exact rfl; all_goals intro h)
        | ((with_reducible apply QW.gS); exact rfl; exact rfl; exact rfl; all_goals intro h)
        | with_reducible apply OW.app
        | with_reducible apply OW.app0
        | with_reducible apply QW.app
        | with_reducible apply QW.app0
        | with_reducible apply OW.nil
        | ((with_reducible apply QW.nil); intro w hcl; replace H := H.ext hcl; clear hcl)
        | ((with_reducible apply RW.one); exact rfl; decide +kernel)
        | with_reducible apply thn_n
        | with_reducible apply CW.seq
        | with_reducible apply CW.region
        | ((with_reducible apply CW.regionD mixed); decide +kernel)
        | with_reducible apply CW.block
        | with_reducible apply CW.ret
        | with_reducible apply CW.exit
        | with_reducible apply CW.skip
        | with_reducible apply thn_r
        | with_reducible apply thn_e
        | with_reducible apply blk_n
        | with_reducible apply blk_r
        | ((with_reducible apply blk_e1); exact rfl)
        | ((with_reducible apply blk_e0); exact rfl)
        | ((with_reducible apply CW.condT); exact rfl)
        | ((with_reducible apply CW.condF); exact rfl))
    exact ret1 rfl H.cl rfl
  obtain ⟨W, s, hw⟩ : ∃ W s, winF x = (W, s) := ⟨_, _, rfl⟩
  obtain ⟨Tp, ts, ht⟩ : ∃ W s, topF x = (W, s) := ⟨_, _, rfl⟩
  have hT := top_some hm
  rw [ht] at hT
  have hW := may_win hm
  rw [hw] at hW
  simp only at hT hW
  repeat' (first
      | ((with_reducible apply OW.p sg); exact rfl; exact rfl; exact rfl; exact rfl)
      | ((with_reducible apply QW.p sg); exact rfl; exact rfl; exact rfl; exact rfl)
      | ((with_reducible apply OW.go); exact rfl)
      | ((with_reducible apply QW.go); exact rfl)
      | ((with_reducible apply OX.pure sg); exact rfl; exact rfl; exact rfl)
      | ((with_reducible apply QX.pure sg); exact rfl; exact rfl; exact rfl)
      | ((with_reducible apply OX.val); exact rfl; exact rfl; exact Yq.loadS sg rfl rfl H.mem (by first | exact List.Mem.head _ | exact List.Mem.tail _ (List.Mem.head _) | exact List.Mem.tail _ (List.Mem.tail _ (List.Mem.head _)) | exact List.Mem.tail _ (List.Mem.tail _ (List.Mem.tail _ (List.Mem.head _))) | exact List.Mem.tail _ (List.Mem.tail _ (List.Mem.tail _ (List.Mem.tail _ (List.Mem.head _)))) | (repeat (first | exact List.Mem.head _ | refine List.Mem.tail _ ?_))) rfl rfl)
      | ((with_reducible apply QX.val); exact rfl; exact rfl; exact Yq.loadS sg rfl rfl H.mem (by first | exact List.Mem.head _ | exact List.Mem.tail _ (List.Mem.head _) | exact List.Mem.tail _ (List.Mem.tail _ (List.Mem.head _)) | exact List.Mem.tail _ (List.Mem.tail _ (List.Mem.tail _ (List.Mem.head _))) | exact List.Mem.tail _ (List.Mem.tail _ (List.Mem.tail _ (List.Mem.tail _ (List.Mem.head _)))) | (repeat (first | exact List.Mem.head _ | refine List.Mem.tail _ ?_))) rfl rfl)
      | (refine OX.box H rfl rfl rfl rfl rfl ?_; intro b w H _)
      | (refine OX.alloc sg H rfl rfl rfl rfl rfl ?_; intro b w H _)
      | ((with_reducible apply OX.store sg H); exact rfl; exact rfl; exact rfl; exact rfl; exact rfl; exact rfl; (repeat (first | exact Up.here | apply Up.there)); exact rfl; exact rfl; exact rfl; exact rfl; intro w H)
      | ((with_reducible apply RW.nil); exact rfl)
      | ((with_reducible apply OX.call); exact rfl; exact rfl; exact En.fn ent18 rfl rfl; exact win_at x W s hw (H.memF hF) hs0; intro w hcl; replace H := H.ext hcl; clear hcl)
      | ((with_reducible apply QX.call); exact rfl; exact rfl; exact En.fn ent18 rfl rfl; exact (fun _ hcl => win_at x W s hw ((H.ext hcl).memF hF) hs0))
      | ((with_reducible apply OX.call); exact rfl; exact rfl; exact En.fn ent17 rfl rfl; exact may_at x true hm (H.memF hF) hs0; intro w hcl; replace H := H.ext hcl; clear hcl)
      | ((with_reducible apply QX.call); exact rfl; exact rfl; exact En.fn ent17 rfl rfl; exact (fun _ hcl => may_at x true hm ((H.ext hcl).memF hF) hs0))
      | ((with_reducible apply OW.gY); exact rfl; exact rfl; exact rfl)
      | ((with_reducible apply OW.gN); exact rfl; exact rfl; exact rfl; exact rfl; exact rfl)
      | ((with_reducible apply QW.gY); exact rfl; exact rfl; exact rfl)
      | ((with_reducible apply QW.gN); exact rfl; exact rfl; exact rfl; exact rfl; exact rfl)
      | ((with_reducible apply OW.gS); exact rfl; exact rfl; exact rfl; all_goals intro h)
      | ((with_reducible apply QW.gS); exact rfl; exact rfl; exact rfl; all_goals intro h)
      | with_reducible apply OW.app
      | with_reducible apply OW.app0
      | with_reducible apply QW.app
      | with_reducible apply QW.app0
      | with_reducible apply OW.nil
      | ((with_reducible apply QW.nil); intro w hcl; replace H := H.ext hcl; clear hcl)
      | ((with_reducible apply RW.one); exact rfl; decide +kernel)
      | with_reducible apply thn_n
      | with_reducible apply CW.seq
      | with_reducible apply CW.region
      | ((with_reducible apply CW.regionD mixed); decide +kernel)
      | with_reducible apply CW.block
      | with_reducible apply CW.ret
      | with_reducible apply CW.exit
      | with_reducible apply CW.skip
      | with_reducible apply thn_r
      | with_reducible apply thn_e
      | with_reducible apply blk_n
      | with_reducible apply blk_r
      | ((with_reducible apply blk_e1); exact rfl)
      | ((with_reducible apply blk_e0); exact rfl)
      | ((with_reducible apply CW.condT); exact rfl)
      | ((with_reducible apply CW.condF); exact rfl))
  refine CW.loopI [(5, 7), (37, 70)] (fun k : Nat => [(7, .int .i64 (k : Int)), (6, .bool (enoughTo x.bids x.reserve k)), (5, .int .i64 (amountTo x.bids W.acct k))])
    (fun k w => k ≤ x.bids.length ∧ St w0 [cb _ W.cells 26, cb _ (x.cells a cap) 24] w) (fun k => x.bids.length - k) 0 ⟨rfl, rfl, rfl, trivial⟩ ⟨Nat.zero_le _, H⟩ ?_
  clear H
  rintro k g w ⟨hk, H⟩
  repeat' (first
      | ((with_reducible apply OW.p sg); exact rfl; exact rfl; exact rfl; exact rfl)
      | ((with_reducible apply QW.p sg); exact rfl; exact rfl; exact rfl; exact rfl)
      | ((with_reducible apply OW.go); exact rfl)
      | ((with_reducible apply QW.go); exact rfl)
      | ((with_reducible apply OX.pure sg); exact rfl; exact rfl; exact rfl)
      | ((with_reducible apply QX.pure sg); exact rfl; exact rfl; exact rfl)
      | ((with_reducible apply OX.val); exact rfl; exact rfl; exact Yq.loadS sg rfl rfl H.mem (by first | exact List.Mem.head _ | exact List.Mem.tail _ (List.Mem.head _) | exact List.Mem.tail _ (List.Mem.tail _ (List.Mem.head _)) | exact List.Mem.tail _ (List.Mem.tail _ (List.Mem.tail _ (List.Mem.head _))) | exact List.Mem.tail _ (List.Mem.tail _ (List.Mem.tail _ (List.Mem.tail _ (List.Mem.head _)))) | (repeat (first | exact List.Mem.head _ | refine List.Mem.tail _ ?_))) rfl rfl)
      | ((with_reducible apply QX.val); exact rfl; exact rfl; exact Yq.loadS sg rfl rfl H.mem (by first | exact List.Mem.head _ | exact List.Mem.tail _ (List.Mem.head _) | exact List.Mem.tail _ (List.Mem.tail _ (List.Mem.head _)) | exact List.Mem.tail _ (List.Mem.tail _ (List.Mem.tail _ (List.Mem.head _))) | exact List.Mem.tail _ (List.Mem.tail _ (List.Mem.tail _ (List.Mem.tail _ (List.Mem.head _)))) | (repeat (first | exact List.Mem.head _ | refine List.Mem.tail _ ?_))) rfl rfl)
      | (refine OX.box H rfl rfl rfl rfl rfl ?_; intro b w H _)
      | (refine OX.alloc sg H rfl rfl rfl rfl rfl ?_; intro b w H _)
      | ((with_reducible apply OX.store sg H); exact rfl; exact rfl; exact rfl; exact rfl; exact rfl; exact rfl; (repeat (first | exact Up.here | apply Up.there)); exact rfl; exact rfl; exact rfl; exact rfl; intro w H)
      | ((with_reducible apply RW.nil); exact rfl)
      | ((with_reducible apply OW.gY); exact rfl; exact rfl; exact rfl)
      | ((with_reducible apply OW.gN); exact rfl; exact rfl; exact rfl; exact rfl; exact rfl)
      | ((with_reducible apply QW.gY); exact rfl; exact rfl; exact rfl)
      | ((with_reducible apply QW.gN); exact rfl; exact rfl; exact rfl; exact rfl; exact rfl)
      | ((with_reducible apply OW.gS); exact rfl; exact rfl; exact rfl; all_goals intro h)
      | ((with_reducible apply QW.gS); exact rfl; exact rfl; exact rfl; all_goals intro h)
      | with_reducible apply OW.app
      | with_reducible apply OW.app0
      | with_reducible apply QW.app
      | with_reducible apply QW.app0
      | with_reducible apply OW.nil
      | ((with_reducible apply QW.nil); intro w hcl; replace H := H.ext hcl; clear hcl)
      | ((with_reducible apply RW.one); exact rfl; decide +kernel)
      | with_reducible apply thn_n
      | with_reducible apply CW.seq
      | with_reducible apply CW.region
      | ((with_reducible apply CW.regionD mixed); decide +kernel)
      | with_reducible apply CW.block
      | with_reducible apply CW.ret
      | with_reducible apply CW.exit
      | with_reducible apply CW.skip
      | with_reducible apply thn_r
      | with_reducible apply thn_e
      | with_reducible apply blk_n
      | with_reducible apply blk_r
      | ((with_reducible apply blk_e1); exact rfl)
      | ((with_reducible apply blk_e0); exact rfl)
      | ((with_reducible apply CW.condT); exact rfl)
      | ((with_reducible apply CW.condF); exact rfl))
  refine CW.cond rfl (fun h2 => ?_) (fun h2 => ?_)
  · have hlt : k < x.bids.length := by simpa using h2
    repeat' (first
        | ((with_reducible apply OW.p sg); exact rfl; exact rfl; exact rfl; exact rfl)
        | ((with_reducible apply QW.p sg); exact rfl; exact rfl; exact rfl; exact rfl)
        | ((with_reducible apply OW.go); exact rfl)
        | ((with_reducible apply QW.go); exact rfl)
        | ((with_reducible apply OX.pure sg); exact rfl; exact rfl; exact rfl)
        | ((with_reducible apply QX.pure sg); exact rfl; exact rfl; exact rfl)
        | ((with_reducible apply OX.val); exact rfl; exact rfl; exact Yq.loadS sg rfl rfl H.mem (by first | exact List.Mem.head _ | exact List.Mem.tail _ (List.Mem.head _) | exact List.Mem.tail _ (List.Mem.tail _ (List.Mem.head _)) | exact List.Mem.tail _ (List.Mem.tail _ (List.Mem.tail _ (List.Mem.head _))) | exact List.Mem.tail _ (List.Mem.tail _ (List.Mem.tail _ (List.Mem.tail _ (List.Mem.head _)))) | (repeat (first | exact List.Mem.head _ | refine List.Mem.tail _ ?_))) rfl rfl)
        | ((with_reducible apply QX.val); exact rfl; exact rfl; exact Yq.loadS sg rfl rfl H.mem (by first | exact List.Mem.head _ | exact List.Mem.tail _ (List.Mem.head _) | exact List.Mem.tail _ (List.Mem.tail _ (List.Mem.head _)) | exact List.Mem.tail _ (List.Mem.tail _ (List.Mem.tail _ (List.Mem.head _))) | exact List.Mem.tail _ (List.Mem.tail _ (List.Mem.tail _ (List.Mem.tail _ (List.Mem.head _)))) | (repeat (first | exact List.Mem.head _ | refine List.Mem.tail _ ?_))) rfl rfl)
        | (refine OX.box H rfl rfl rfl rfl rfl ?_; intro b w H _)
        | (refine OX.alloc sg H rfl rfl rfl rfl rfl ?_; intro b w H _)
        | ((with_reducible apply OX.store sg H); exact rfl; exact rfl; exact rfl; exact rfl; exact rfl; exact rfl; (repeat (first | exact Up.here | apply Up.there)); exact rfl; exact rfl; exact rfl; exact rfl; intro w H)
        | ((with_reducible apply RW.nil); exact rfl)
        | ((with_reducible apply OX.val); exact rfl; exact rfl; exact Yq.ixB sg hs rfl rfl rfl rfl rfl rfl rfl (by first | with_reducible exact Int.toNat_natCast _ | exact toNat_pred (by omega) (by omega) | with_reducible exact toNat_0 | exact toNat_self _) (by omega) (by omega))
        | ((with_reducible apply QX.val); exact rfl; exact rfl; exact Yq.ixB sg hs rfl rfl rfl rfl rfl rfl rfl (by first | with_reducible exact Int.toNat_natCast _ | exact toNat_pred (by omega) (by omega) | with_reducible exact toNat_0 | exact toNat_self _) (by omega) (by omega))
        | ((with_reducible apply OX.val); exact rfl; exact rfl; exact Yq.loadBf sg hs (H.memF hF) rfl rfl rfl rfl (by omega) rfl rfl)
        | ((with_reducible apply QX.val); exact rfl; exact rfl; exact Yq.loadBf sg hs (H.memF hF) rfl rfl rfl rfl (by omega) rfl rfl)
        | ((with_reducible apply OW.gY); exact rfl; exact rfl; exact rfl)
        | ((with_reducible apply OW.gN); exact rfl; exact rfl; exact rfl; exact rfl; exact rfl)
        | ((with_reducible apply QW.gY); exact rfl; exact rfl; exact rfl)
        | ((with_reducible apply QW.gN); exact rfl; exact rfl; exact rfl; exact rfl; exact rfl)
        | ((with_reducible apply OW.gS); exact rfl; exact rfl; exact rfl; all_goals intro h)
        | ((with_reducible apply QW.gS); exact rfl; exact rfl; exact rfl; all_goals intro h)
        | with_reducible apply OW.app
        | with_reducible apply OW.app0
        | with_reducible apply QW.app
        | with_reducible apply QW.app0
        | with_reducible apply OW.nil
        | ((with_reducible apply QW.nil); intro w hcl; replace H := H.ext hcl; clear hcl)
        | ((with_reducible apply RW.one); exact rfl; decide +kernel)
        | with_reducible apply thn_n
        | with_reducible apply CW.seq
        | with_reducible apply CW.region
        | ((with_reducible apply CW.regionD mixed); decide +kernel)
        | with_reducible apply CW.block
        | with_reducible apply CW.ret
        | with_reducible apply CW.exit
        | with_reducible apply CW.skip
        | with_reducible apply thn_r
        | with_reducible apply thn_e
        | with_reducible apply blk_n
        | with_reducible apply blk_r
        | ((with_reducible apply blk_e1); exact rfl)
        | ((with_reducible apply blk_e0); exact rfl)
        | ((with_reducible apply CW.condT); exact rfl)
        | ((with_reducible apply CW.condF); exact rfl)
        | ((with_reducible apply CW.cond); exact rfl; all_goals intro h))
    all_goals
      refine Again.mk (k + 1) rfl ⟨vsucc (by omega), ?_, ?_, trivial⟩ ⟨hlt, H⟩ (by omega)
      · first
        | (show Value.bool true = _; congr 1; simp only [enoughTo, *]; rfl)
        | (show Value.bool (decide _) = _; congr 1; rw [enoughTo, ‹enoughTo x.bids x.reserve k = false›, Bool.false_or])
      · first
        | (show Value.int .i64 (x.bids.getD k default).amount = _; rw [amountTo, if_pos ‹_›])
        | (show Value.int .i64 (amountTo x.bids W.acct k) = _; rw [amountTo, if_neg (by simp only [*]; simp)])
  · have hkn : k = x.bids.length := by simp at h2; omega
    subst hkn
    rw [← hW]
    repeat' (first
        | ((with_reducible apply OW.p sg); exact rfl; exact rfl; exact rfl; exact rfl)
        | ((with_reducible apply QW.p sg); exact rfl; exact rfl; exact rfl; exact rfl)
        | ((with_reducible apply OW.go); exact rfl)
        | ((with_reducible apply QW.go); exact rfl)
        | ((with_reducible apply OX.pure sg); exact rfl; exact rfl; exact rfl)
        | ((with_reducible apply QX.pure sg); exact rfl; exact rfl; exact rfl)
        | ((with_reducible apply OX.val); exact rfl; exact rfl; exact Yq.loadS sg rfl rfl H.mem (by first | exact List.Mem.head _ | exact List.Mem.tail _ (List.Mem.head _) | exact List.Mem.tail _ (List.Mem.tail _ (List.Mem.head _)) | exact List.Mem.tail _ (List.Mem.tail _ (List.Mem.tail _ (List.Mem.head _))) | exact List.Mem.tail _ (List.Mem.tail _ (List.Mem.tail _ (List.Mem.tail _ (List.Mem.head _)))) | (repeat (first | exact List.Mem.head _ | refine List.Mem.tail _ ?_))) rfl rfl)
        | ((with_reducible apply QX.val); exact rfl; exact rfl; exact Yq.loadS sg rfl rfl H.mem (by first | exact List.Mem.head _ | exact List.Mem.tail _ (List.Mem.head _) | exact List.Mem.tail _ (List.Mem.tail _ (List.Mem.head _)) | exact List.Mem.tail _ (List.Mem.tail _ (List.Mem.tail _ (List.Mem.head _))) | exact List.Mem.tail _ (List.Mem.tail _ (List.Mem.tail _ (List.Mem.tail _ (List.Mem.head _)))) | (repeat (first | exact List.Mem.head _ | refine List.Mem.tail _ ?_))) rfl rfl)
        | (refine OX.box H rfl rfl rfl rfl rfl ?_; intro b w H _)
        | (refine OX.alloc sg H rfl rfl rfl rfl rfl ?_; intro b w H _)
        | ((with_reducible apply OX.store sg H); exact rfl; exact rfl; exact rfl; exact rfl; exact rfl; exact rfl; (repeat (first | exact Up.here | apply Up.there)); exact rfl; exact rfl; exact rfl; exact rfl; intro w H)
        | ((with_reducible apply RW.nil); exact rfl)
        | ((with_reducible apply OW.gY); exact rfl; exact rfl; exact rfl)
        | ((with_reducible apply OW.gN); exact rfl; exact rfl; exact rfl; exact rfl; exact rfl)
        | ((with_reducible apply QW.gY); exact rfl; exact rfl; exact rfl)
        | ((with_reducible apply QW.gN); exact rfl; exact rfl; exact rfl; exact rfl; exact rfl)
        | ((with_reducible apply OW.gS); exact rfl; exact rfl; exact rfl; all_goals intro h)
        | ((with_reducible apply QW.gS); exact rfl; exact rfl; exact rfl; all_goals intro h)
        | with_reducible apply OW.app
        | with_reducible apply OW.app0
        | with_reducible apply QW.app
        | with_reducible apply QW.app0
        | with_reducible apply OW.nil
        | ((with_reducible apply QW.nil); intro w hcl; replace H := H.ext hcl; clear hcl)
        | ((with_reducible apply RW.one); exact rfl; decide +kernel)
        | with_reducible apply thn_n
        | with_reducible apply CW.seq
        | with_reducible apply CW.region
        | ((with_reducible apply CW.regionD mixed); decide +kernel)
        | with_reducible apply CW.block
        | with_reducible apply CW.ret
        | with_reducible apply CW.exit
        | with_reducible apply CW.skip
        | with_reducible apply thn_r
        | with_reducible apply thn_e
        | with_reducible apply blk_n
        | with_reducible apply blk_r
        | ((with_reducible apply blk_e1); exact rfl)
        | ((with_reducible apply blk_e0); exact rfl)
        | ((with_reducible apply CW.condT); exact rfl)
        | ((with_reducible apply CW.condF); exact rfl))
    refine CW.cond rfl (fun h3 => absurd h3 (by simp)) (fun _ => ?_)
    have hd : (ts == decide ((x.bids.length : Int) > 0)) = true := by rw [hT]; simp
    cases s with
    | false =>
      obtain rfl : W = Bid.zero := by have := win_zero (x := x) (by rw [hw]); rw [hw] at this; exact this
      repeat' (first
          | ((with_reducible apply OW.p sg); exact rfl; exact rfl; exact rfl; exact rfl)
          | ((with_reducible apply QW.p sg); exact rfl; exact rfl; exact rfl; exact rfl)
          | ((with_reducible apply OW.go); exact rfl)
          | ((with_reducible apply QW.go); exact rfl)
          | ((with_reducible apply OX.pure sg); exact rfl; exact rfl; exact rfl)
          | ((with_reducible apply QX.pure sg); exact rfl; exact rfl; exact rfl)
          | ((with_reducible apply OX.val); exact rfl; exact rfl; exact Yq.loadS sg rfl rfl H.mem (by first | exact List.Mem.head _ | exact List.Mem.tail _ (List.Mem.head _) | exact List.Mem.tail _ (List.Mem.tail _ (List.Mem.head _)) | exact List.Mem.tail _ (List.Mem.tail _ (List.Mem.tail _ (List.Mem.head _))) | exact List.Mem.tail _ (List.Mem.tail _ (List.Mem.tail _ (List.Mem.tail _ (List.Mem.head _)))) | (repeat (first | exact List.Mem.head _ | refine List.Mem.tail _ ?_))) rfl rfl)
          | ((with_reducible apply QX.val); exact rfl; exact rfl; exact Yq.loadS sg rfl rfl H.mem (by first | exact List.Mem.head _ | exact List.Mem.tail _ (List.Mem.head _) | exact List.Mem.tail _ (List.Mem.tail _ (List.Mem.head _)) | exact List.Mem.tail _ (List.Mem.tail _ (List.Mem.tail _ (List.Mem.head _))) | exact List.Mem.tail _ (List.Mem.tail _ (List.Mem.tail _ (List.Mem.tail _ (List.Mem.head _)))) | (repeat (first | exact List.Mem.head _ | refine List.Mem.tail _ ?_))) rfl rfl)
          | (refine OX.box H rfl rfl rfl rfl rfl ?_; intro b w H _)
          | (refine OX.alloc sg H rfl rfl rfl rfl rfl ?_; intro b w H _)
          | ((with_reducible apply OX.store sg H); exact rfl; exact rfl; exact rfl; exact rfl; exact rfl; exact rfl; (repeat (first | exact Up.here | apply Up.there)); exact rfl; exact rfl; exact rfl; exact rfl; intro w H)
          | ((with_reducible apply RW.nil); exact rfl)
          | ((with_reducible apply OX.call); exact rfl; exact rfl; exact En.fn ent21 rfl rfl; exact top_at x Tp ts ht (H.memF hF) hs0; intro w hcl; replace H := H.ext hcl; clear hcl)
          | ((with_reducible apply QX.call); exact rfl; exact rfl; exact En.fn ent21 rfl rfl; exact (fun _ hcl => top_at x Tp ts ht ((H.ext hcl).memF hF) hs0))
          | ((with_reducible apply OX.val); exact rfl; exact rfl; exact Yq.eqlBid Bid.zero Bid.zero rfl rfl rfl)
          | ((with_reducible apply QX.val); exact rfl; exact rfl; exact Yq.eqlBid Bid.zero Bid.zero rfl rfl rfl)
          | ((with_reducible apply OW.gY); exact rfl; exact rfl; exact rfl)
          | ((with_reducible apply OW.gN); exact rfl; exact rfl; exact rfl; exact rfl; exact rfl)
          | ((with_reducible apply QW.gY); exact rfl; exact rfl; exact rfl)
          | ((with_reducible apply QW.gN); exact rfl; exact rfl; exact rfl; exact rfl; exact rfl)
          | ((with_reducible apply OW.gS); exact rfl; exact rfl; exact rfl; all_goals (intro h; try (exfalso; first | (rw [hd] at h; cases h; done))))
          | ((with_reducible apply QW.gS); exact rfl; exact rfl; exact rfl; all_goals (intro h; try (exfalso; first | (rw [hd] at h; cases h; done))))
          | with_reducible apply OW.app
          | with_reducible apply OW.app0
          | with_reducible apply QW.app
          | with_reducible apply QW.app0
          | with_reducible apply OW.nil
          | ((with_reducible apply QW.nil); intro w hcl; replace H := H.ext hcl; clear hcl)
          | ((with_reducible apply RW.one); exact rfl; decide +kernel)
          | with_reducible apply thn_n
          | with_reducible apply CW.seq
          | with_reducible apply CW.region
          | ((with_reducible apply CW.regionD mixed); decide +kernel)
          | with_reducible apply CW.block
          | with_reducible apply CW.ret
          | with_reducible apply CW.exit
          | with_reducible apply CW.skip
          | with_reducible apply thn_r
          | with_reducible apply thn_e
          | with_reducible apply blk_n
          | with_reducible apply blk_r
          | ((with_reducible apply blk_e1); exact rfl)
          | ((with_reducible apply blk_e0); exact rfl)
          | ((with_reducible apply CW.condT); exact rfl)
          | ((with_reducible apply CW.condF); exact rfl))
      all_goals exact ret1 rfl H.cl rfl
    | true =>
      obtain ⟨m, f1, f2, f3, f4, f5, f6, f7, f8, f9⟩ := win_facts hm (by rw [hw])
      rw [hw] at f2 f4 f5 f6 f7 f8 f9
      rw [ht] at f3
      simp only at f2 f3 f4 f5 f6 f7 f8 f9
      subst f3
      rw [f4]
      obtain rfl : ts = true := by rw [hT]; exact decide_eq_true (by omega)
      have hd0 : decide ((x.bids.length : Int) > 0) = true := hT.symm
      obtain ⟨wc, wm⟩ := W
      simp only at f2 f5 f6 f7 f8 f9
      subst f2
      repeat' (first
          | ((with_reducible apply OW.p sg); exact rfl; exact rfl; exact rfl; exact rfl)
          | ((with_reducible apply QW.p sg); exact rfl; exact rfl; exact rfl; exact rfl)
          | ((with_reducible apply OW.go); exact rfl)
          | ((with_reducible apply QW.go); exact rfl)
          | ((with_reducible apply OX.pure sg); exact rfl; exact rfl; exact rfl)
          | ((with_reducible apply QX.pure sg); exact rfl; exact rfl; exact rfl)
          | ((with_reducible apply OX.val); exact rfl; exact rfl; exact Yq.loadS sg rfl rfl H.mem (by first | exact List.Mem.head _ | exact List.Mem.tail _ (List.Mem.head _) | exact List.Mem.tail _ (List.Mem.tail _ (List.Mem.head _)) | exact List.Mem.tail _ (List.Mem.tail _ (List.Mem.tail _ (List.Mem.head _))) | exact List.Mem.tail _ (List.Mem.tail _ (List.Mem.tail _ (List.Mem.tail _ (List.Mem.head _)))) | (repeat (first | exact List.Mem.head _ | refine List.Mem.tail _ ?_))) rfl rfl)
          | ((with_reducible apply QX.val); exact rfl; exact rfl; exact Yq.loadS sg rfl rfl H.mem (by first | exact List.Mem.head _ | exact List.Mem.tail _ (List.Mem.head _) | exact List.Mem.tail _ (List.Mem.tail _ (List.Mem.head _)) | exact List.Mem.tail _ (List.Mem.tail _ (List.Mem.tail _ (List.Mem.head _))) | exact List.Mem.tail _ (List.Mem.tail _ (List.Mem.tail _ (List.Mem.tail _ (List.Mem.head _)))) | (repeat (first | exact List.Mem.head _ | refine List.Mem.tail _ ?_))) rfl rfl)
          | (refine OX.box H rfl rfl rfl rfl rfl ?_; intro b w H _)
          | (refine OX.alloc sg H rfl rfl rfl rfl rfl ?_; intro b w H _)
          | ((with_reducible apply OX.store sg H); exact rfl; exact rfl; exact rfl; exact rfl; exact rfl; exact rfl; (repeat (first | exact Up.here | apply Up.there)); exact rfl; exact rfl; exact rfl; exact rfl; intro w H)
          | ((with_reducible apply RW.nil); exact rfl)
          | ((with_reducible apply OX.call); exact rfl; exact rfl; exact En.fn ent21 rfl rfl; exact top_at x _ true ht (H.memF hF) hs0; intro w hcl; replace H := H.ext hcl; clear hcl)
          | ((with_reducible apply QX.call); exact rfl; exact rfl; exact En.fn ent21 rfl rfl; exact (fun _ hcl => top_at x _ true ht ((H.ext hcl).memF hF) hs0))
          | ((with_reducible apply OW.gY); exact rfl; exact rfl; exact rfl)
          | ((with_reducible apply OW.gN); exact rfl; exact rfl; exact rfl; exact rfl; exact rfl)
          | ((with_reducible apply QW.gY); exact rfl; exact rfl; exact rfl)
          | ((with_reducible apply QW.gN); exact rfl; exact rfl; exact rfl; exact rfl; exact rfl)
          | ((with_reducible apply OW.gS); exact rfl; exact rfl; exact rfl; all_goals (intro h; try (exfalso; first | (rw [hd] at h; cases h; done) | (simp at h; done) | ((simp only [decide_eq_true_eq, decide_eq_false_iff_not, beq_iff_eq, beq_eq_false_iff_ne, bne_iff_ne, ne_eq, Bool.not_eq_true, Int.not_lt, Int.not_le, gt_iff_lt, ge_iff_le] at h; omega); done) | (simp_all; done))))
          | ((with_reducible apply QW.gS); exact rfl; exact rfl; exact rfl; all_goals (intro h; try (exfalso; first | (rw [hd] at h; cases h; done) | (simp at h; done) | ((simp only [decide_eq_true_eq, decide_eq_false_iff_not, beq_iff_eq, beq_eq_false_iff_ne, bne_iff_ne, ne_eq, Bool.not_eq_true, Int.not_lt, Int.not_le, gt_iff_lt, ge_iff_le] at h; omega); done) | (simp_all; done))))
          | with_reducible apply OW.app
          | with_reducible apply OW.app0
          | with_reducible apply QW.app
          | with_reducible apply QW.app0
          | with_reducible apply OW.nil
          | ((with_reducible apply QW.nil); intro w hcl; replace H := H.ext hcl; clear hcl)
          | ((with_reducible apply RW.one); exact rfl; decide +kernel)
          | with_reducible apply thn_n
          | with_reducible apply CW.seq
          | with_reducible apply CW.region
          | ((with_reducible apply CW.regionD mixed); decide +kernel)
          | with_reducible apply CW.block
          | with_reducible apply CW.ret
          | with_reducible apply CW.exit
          | with_reducible apply CW.skip
          | with_reducible apply thn_r
          | with_reducible apply thn_e
          | with_reducible apply blk_n
          | with_reducible apply blk_r
          | ((with_reducible apply blk_e1); exact rfl)
          | ((with_reducible apply blk_e0); exact rfl)
          | ((with_reducible apply CW.condT); exact rfl)
          | ((with_reducible apply CW.condF); exact rfl))
      all_goals repeat' (first
          | ((with_reducible apply OW.p sg); exact rfl; exact rfl; exact rfl; exact rfl)
          | ((with_reducible apply QW.p sg); exact rfl; exact rfl; exact rfl; exact rfl)
          | ((with_reducible apply OW.go); exact rfl)
          | ((with_reducible apply QW.go); exact rfl)
          | ((with_reducible apply OX.pure sg); exact rfl; exact rfl; exact rfl)
          | ((with_reducible apply QX.pure sg); exact rfl; exact rfl; exact rfl)
          | ((with_reducible apply OX.val); exact rfl; exact rfl; exact Yq.loadS sg rfl rfl H.mem (by first | exact List.Mem.head _ | exact List.Mem.tail _ (List.Mem.head _) | exact List.Mem.tail _ (List.Mem.tail _ (List.Mem.head _)) | exact List.Mem.tail _ (List.Mem.tail _ (List.Mem.tail _ (List.Mem.head _))) | exact List.Mem.tail _ (List.Mem.tail _ (List.Mem.tail _ (List.Mem.tail _ (List.Mem.head _)))) | (repeat (first | exact List.Mem.head _ | refine List.Mem.tail _ ?_))) rfl rfl)
          | ((with_reducible apply QX.val); exact rfl; exact rfl; exact Yq.loadS sg rfl rfl H.mem (by first | exact List.Mem.head _ | exact List.Mem.tail _ (List.Mem.head _) | exact List.Mem.tail _ (List.Mem.tail _ (List.Mem.head _)) | exact List.Mem.tail _ (List.Mem.tail _ (List.Mem.tail _ (List.Mem.head _))) | exact List.Mem.tail _ (List.Mem.tail _ (List.Mem.tail _ (List.Mem.tail _ (List.Mem.head _)))) | (repeat (first | exact List.Mem.head _ | refine List.Mem.tail _ ?_))) rfl rfl)
          | (refine OX.box H rfl rfl rfl rfl rfl ?_; intro b w H _)
          | (refine OX.alloc sg H rfl rfl rfl rfl rfl ?_; intro b w H _)
          | ((with_reducible apply OX.store sg H); exact rfl; exact rfl; exact rfl; exact rfl; exact rfl; exact rfl; (repeat (first | exact Up.here | apply Up.there)); exact rfl; exact rfl; exact rfl; exact rfl; intro w H)
          | ((with_reducible apply RW.nil); exact rfl)
          | ((with_reducible apply OW.gY); exact rfl; exact rfl; exact rfl)
          | ((with_reducible apply OW.gN); exact rfl; exact rfl; exact rfl; exact rfl; exact rfl)
          | ((with_reducible apply QW.gY); exact rfl; exact rfl; exact rfl)
          | ((with_reducible apply QW.gN); exact rfl; exact rfl; exact rfl; exact rfl; exact rfl)
          | ((with_reducible apply OW.gS); exact rfl; exact rfl; exact rfl; all_goals (intro h; try (exfalso; first | (simp at h; done) | (simp_all; done))))
          | ((with_reducible apply QW.gS); exact rfl; exact rfl; exact rfl; all_goals (intro h; try (exfalso; first | (simp at h; done) | (simp_all; done))))
          | with_reducible apply OW.app
          | with_reducible apply OW.app0
          | with_reducible apply QW.app
          | with_reducible apply QW.app0
          | with_reducible apply OW.nil
          | ((with_reducible apply QW.nil); intro w hcl; replace H := H.ext hcl; clear hcl)
          | ((with_reducible apply RW.one); exact rfl; decide +kernel)
          | with_reducible apply thn_n
          | with_reducible apply CW.seq
          | with_reducible apply CW.region
          | ((with_reducible apply CW.regionD mixed); decide +kernel)
          | with_reducible apply CW.block
          | with_reducible apply CW.ret
          | with_reducible apply CW.exit
          | with_reducible apply CW.skip
          | with_reducible apply thn_r
          | with_reducible apply thn_e
          | with_reducible apply blk_n
          | with_reducible apply blk_r
          | ((with_reducible apply blk_e1); exact rfl)
          | ((with_reducible apply blk_e0); exact rfl)
          | ((with_reducible apply CW.condT); exact rfl)
          | ((with_reducible apply CW.condF); exact rfl)
          | ((with_reducible apply CW.cond); exact rfl; all_goals (intro h; try (exfalso; first | (simp at h; done) | (simp_all; done)))))
      all_goals
        refine CW.loopI [(2, 2), (10, 12), (145, 180)] (fun k : Nat => [(11, .int .i64 (k : Int)), (10, .bool (metTo x.bids (x.bids.getD m default).acct wm (wm == x.reserve || !x.sealed) k))])
          (fun k w => k ≤ x.bids.length ∧ St w0 [cb _ (x.bids.getD m default).cells 26, cb _ (Bid.cells ⟨(x.bids.getD m default).acct, wm⟩) 26, cb _ (x.cells a cap) 24] w) (fun k => x.bids.length - k) 0
          ⟨rfl, by show Value.bool _ = Value.bool _; congr 1; simp only [metTo]; simp_all, trivial⟩ ⟨Nat.zero_le _, H⟩ ?_
        clear H
        rintro k g w ⟨hk, H⟩
        repeat' (first
            | ((with_reducible apply OW.p sg); exact rfl; exact rfl; exact rfl; exact rfl)
            | ((with_reducible apply QW.p sg); exact rfl; exact rfl; exact rfl; exact rfl)
            | ((with_reducible apply OW.go); exact rfl)
            | ((with_reducible apply QW.go); exact rfl)
            | ((with_reducible apply OX.pure sg); exact rfl; exact rfl; exact rfl)
            | ((with_reducible apply QX.pure sg); exact rfl; exact rfl; exact rfl)
            | ((with_reducible apply OX.val); exact rfl; exact rfl; exact Yq.loadS sg rfl rfl H.mem (by first | exact List.Mem.head _ | exact List.Mem.tail _ (List.Mem.head _) | exact List.Mem.tail _ (List.Mem.tail _ (List.Mem.head _)) | exact List.Mem.tail _ (List.Mem.tail _ (List.Mem.tail _ (List.Mem.head _))) | exact List.Mem.tail _ (List.Mem.tail _ (List.Mem.tail _ (List.Mem.tail _ (List.Mem.head _)))) | (repeat (first | exact List.Mem.head _ | refine List.Mem.tail _ ?_))) rfl rfl)
            | ((with_reducible apply QX.val); exact rfl; exact rfl; exact Yq.loadS sg rfl rfl H.mem (by first | exact List.Mem.head _ | exact List.Mem.tail _ (List.Mem.head _) | exact List.Mem.tail _ (List.Mem.tail _ (List.Mem.head _)) | exact List.Mem.tail _ (List.Mem.tail _ (List.Mem.tail _ (List.Mem.head _))) | exact List.Mem.tail _ (List.Mem.tail _ (List.Mem.tail _ (List.Mem.tail _ (List.Mem.head _)))) | (repeat (first | exact List.Mem.head _ | refine List.Mem.tail _ ?_))) rfl rfl)
            | (refine OX.box H rfl rfl rfl rfl rfl ?_; intro b w H _)
            | (refine OX.alloc sg H rfl rfl rfl rfl rfl ?_; intro b w H _)
            | ((with_reducible apply OX.store sg H); exact rfl; exact rfl; exact rfl; exact rfl; exact rfl; exact rfl; (repeat (first | exact Up.here | apply Up.there)); exact rfl; exact rfl; exact rfl; exact rfl; intro w H)
            | ((with_reducible apply RW.nil); exact rfl)
            | ((with_reducible apply OW.gY); exact rfl; exact rfl; exact rfl)
            | ((with_reducible apply OW.gN); exact rfl; exact rfl; exact rfl; exact rfl; exact rfl)
            | ((with_reducible apply QW.gY); exact rfl; exact rfl; exact rfl)
            | ((with_reducible apply QW.gN); exact rfl; exact rfl; exact rfl; exact rfl; exact rfl)
            | ((with_reducible apply OW.gS); exact rfl; exact rfl; exact rfl; all_goals intro h)
            | ((with_reducible apply QW.gS); exact rfl; exact rfl; exact rfl; all_goals intro h)
            | with_reducible apply OW.app
            | with_reducible apply OW.app0
            | with_reducible apply QW.app
            | with_reducible apply QW.app0
            | with_reducible apply OW.nil
            | ((with_reducible apply QW.nil); intro w hcl; replace H := H.ext hcl; clear hcl)
            | ((with_reducible apply RW.one); exact rfl; decide +kernel)
            | with_reducible apply thn_n
            | with_reducible apply CW.seq
            | with_reducible apply CW.region
            | ((with_reducible apply CW.regionD mixed); decide +kernel)
            | with_reducible apply CW.block
            | with_reducible apply CW.ret
            | with_reducible apply CW.exit
            | with_reducible apply CW.skip
            | with_reducible apply thn_r
            | with_reducible apply thn_e
            | with_reducible apply blk_n
            | with_reducible apply blk_r
            | ((with_reducible apply blk_e1); exact rfl)
            | ((with_reducible apply blk_e0); exact rfl)
            | ((with_reducible apply CW.condT); exact rfl)
            | ((with_reducible apply CW.condF); exact rfl))
        refine CW.cond rfl (fun h2 => ?_) (fun h2 => ?_)
        · have hlt : k < x.bids.length := by simpa using h2
          repeat' (first
              | ((with_reducible apply OW.p sg); exact rfl; exact rfl; exact rfl; exact rfl)
              | ((with_reducible apply QW.p sg); exact rfl; exact rfl; exact rfl; exact rfl)
              | ((with_reducible apply OW.go); exact rfl)
              | ((with_reducible apply QW.go); exact rfl)
              | ((with_reducible apply OX.pure sg); exact rfl; exact rfl; exact rfl)
              | ((with_reducible apply QX.pure sg); exact rfl; exact rfl; exact rfl)
              | ((with_reducible apply OX.val); exact rfl; exact rfl; exact Yq.loadS sg rfl rfl H.mem (by first | exact List.Mem.head _ | exact List.Mem.tail _ (List.Mem.head _) | exact List.Mem.tail _ (List.Mem.tail _ (List.Mem.head _)) | exact List.Mem.tail _ (List.Mem.tail _ (List.Mem.tail _ (List.Mem.head _))) | exact List.Mem.tail _ (List.Mem.tail _ (List.Mem.tail _ (List.Mem.tail _ (List.Mem.head _)))) | (repeat (first | exact List.Mem.head _ | refine List.Mem.tail _ ?_))) rfl rfl)
              | ((with_reducible apply QX.val); exact rfl; exact rfl; exact Yq.loadS sg rfl rfl H.mem (by first | exact List.Mem.head _ | exact List.Mem.tail _ (List.Mem.head _) | exact List.Mem.tail _ (List.Mem.tail _ (List.Mem.head _)) | exact List.Mem.tail _ (List.Mem.tail _ (List.Mem.tail _ (List.Mem.head _))) | exact List.Mem.tail _ (List.Mem.tail _ (List.Mem.tail _ (List.Mem.tail _ (List.Mem.head _)))) | (repeat (first | exact List.Mem.head _ | refine List.Mem.tail _ ?_))) rfl rfl)
              | (refine OX.box H rfl rfl rfl rfl rfl ?_; intro b w H _)
              | (refine OX.alloc sg H rfl rfl rfl rfl rfl ?_; intro b w H _)
              | ((with_reducible apply OX.store sg H); exact rfl; exact rfl; exact rfl; exact rfl; exact rfl; exact rfl; (repeat (first | exact Up.here | apply Up.there)); exact rfl; exact rfl; exact rfl; exact rfl; intro w H)
              | ((with_reducible apply RW.nil); exact rfl)
              | ((with_reducible apply OX.val); exact rfl; exact rfl; exact Yq.ixB sg hs rfl rfl rfl rfl rfl rfl rfl (by first | with_reducible exact Int.toNat_natCast _ | exact toNat_pred (by omega) (by omega) | with_reducible exact toNat_0 | exact toNat_self _) (by omega) (by omega))
              | ((with_reducible apply QX.val); exact rfl; exact rfl; exact Yq.ixB sg hs rfl rfl rfl rfl rfl rfl rfl (by first | with_reducible exact Int.toNat_natCast _ | exact toNat_pred (by omega) (by omega) | with_reducible exact toNat_0 | exact toNat_self _) (by omega) (by omega))
              | ((with_reducible apply OX.val); exact rfl; exact rfl; exact Yq.loadB sg hs (H.memF hF) rfl rfl rfl rfl rfl (by omega))
              | ((with_reducible apply QX.val); exact rfl; exact rfl; exact Yq.loadB sg hs (H.memF hF) rfl rfl rfl rfl rfl (by omega))
              | ((with_reducible apply OW.gY); exact rfl; exact rfl; exact rfl)
              | ((with_reducible apply OW.gN); exact rfl; exact rfl; exact rfl; exact rfl; exact rfl)
              | ((with_reducible apply QW.gY); exact rfl; exact rfl; exact rfl)
              | ((with_reducible apply QW.gN); exact rfl; exact rfl; exact rfl; exact rfl; exact rfl)
              | ((with_reducible apply OW.gS); exact rfl; exact rfl; exact rfl; all_goals intro h)
              | ((with_reducible apply QW.gS); exact rfl; exact rfl; exact rfl; all_goals intro h)
              | with_reducible apply OW.app
              | with_reducible apply OW.app0
              | with_reducible apply QW.app
              | with_reducible apply QW.app0
              | with_reducible apply OW.nil
              | ((with_reducible apply QW.nil); intro w hcl; replace H := H.ext hcl; clear hcl)
              | ((with_reducible apply RW.one); exact rfl; decide +kernel)
              | with_reducible apply thn_n
              | with_reducible apply CW.seq
              | with_reducible apply CW.region
              | ((with_reducible apply CW.regionD mixed); decide +kernel)
              | with_reducible apply CW.block
              | with_reducible apply CW.ret
              | with_reducible apply CW.exit
              | with_reducible apply CW.skip
              | with_reducible apply thn_r
              | with_reducible apply thn_e
              | with_reducible apply blk_n
              | with_reducible apply blk_r
              | ((with_reducible apply blk_e1); exact rfl)
              | ((with_reducible apply blk_e0); exact rfl)
              | ((with_reducible apply CW.condT); exact rfl)
              | ((with_reducible apply CW.condF); exact rfl))
          refine CW.cond rfl (fun h3 => ?_) (fun h3 => ?_)
          · repeat' (first
              | ((with_reducible apply OW.p sg); exact rfl; exact rfl; exact rfl; exact rfl)
              | ((with_reducible apply QW.p sg); exact rfl; exact rfl; exact rfl; exact rfl)
              | ((with_reducible apply OW.go); exact rfl)
              | ((with_reducible apply QW.go); exact rfl)
              | ((with_reducible apply OX.pure sg); exact rfl; exact rfl; exact rfl)
              | ((with_reducible apply QX.pure sg); exact rfl; exact rfl; exact rfl)
              | ((with_reducible apply OX.val); exact rfl; exact rfl; exact Yq.loadS sg rfl rfl H.mem (by first | exact List.Mem.head _ | exact List.Mem.tail _ (List.Mem.head _) | exact List.Mem.tail _ (List.Mem.tail _ (List.Mem.head _)) | exact List.Mem.tail _ (List.Mem.tail _ (List.Mem.tail _ (List.Mem.head _))) | exact List.Mem.tail _ (List.Mem.tail _ (List.Mem.tail _ (List.Mem.tail _ (List.Mem.head _)))) | (repeat (first | exact List.Mem.head _ | refine List.Mem.tail _ ?_))) rfl rfl)
              | ((with_reducible apply QX.val); exact rfl; exact rfl; exact Yq.loadS sg rfl rfl H.mem (by first | exact List.Mem.head _ | exact List.Mem.tail _ (List.Mem.head _) | exact List.Mem.tail _ (List.Mem.tail _ (List.Mem.head _)) | exact List.Mem.tail _ (List.Mem.tail _ (List.Mem.tail _ (List.Mem.head _))) | exact List.Mem.tail _ (List.Mem.tail _ (List.Mem.tail _ (List.Mem.tail _ (List.Mem.head _)))) | (repeat (first | exact List.Mem.head _ | refine List.Mem.tail _ ?_))) rfl rfl)
              | (refine OX.box H rfl rfl rfl rfl rfl ?_; intro b w H _)
              | (refine OX.alloc sg H rfl rfl rfl rfl rfl ?_; intro b w H _)
              | ((with_reducible apply OX.store sg H); exact rfl; exact rfl; exact rfl; exact rfl; exact rfl; exact rfl; (repeat (first | exact Up.here | apply Up.there)); exact rfl; exact rfl; exact rfl; exact rfl; intro w H)
              | ((with_reducible apply RW.nil); exact rfl)
              | ((with_reducible apply OW.gY); exact rfl; exact rfl; exact rfl)
              | ((with_reducible apply OW.gN); exact rfl; exact rfl; exact rfl; exact rfl; exact rfl)
              | ((with_reducible apply QW.gY); exact rfl; exact rfl; exact rfl)
              | ((with_reducible apply QW.gN); exact rfl; exact rfl; exact rfl; exact rfl; exact rfl)
              | ((with_reducible apply OW.gS); exact rfl; exact rfl; exact rfl; all_goals intro h)
              | ((with_reducible apply QW.gS); exact rfl; exact rfl; exact rfl; all_goals intro h)
              | with_reducible apply OW.app
              | with_reducible apply OW.app0
              | with_reducible apply QW.app
              | with_reducible apply QW.app0
              | with_reducible apply OW.nil
              | ((with_reducible apply QW.nil); intro w hcl; replace H := H.ext hcl; clear hcl)
              | ((with_reducible apply RW.one); exact rfl; decide +kernel)
              | with_reducible apply thn_n
              | with_reducible apply CW.seq
              | with_reducible apply CW.region
              | ((with_reducible apply CW.regionD mixed); decide +kernel)
              | with_reducible apply CW.block
              | with_reducible apply CW.ret
              | with_reducible apply CW.exit
              | with_reducible apply CW.skip
              | with_reducible apply thn_r
              | with_reducible apply thn_e
              | with_reducible apply blk_n
              | with_reducible apply blk_r
              | ((with_reducible apply blk_e1); exact rfl)
              | ((with_reducible apply blk_e0); exact rfl)
              | ((with_reducible apply CW.condT); exact rfl)
              | ((with_reducible apply CW.condF); exact rfl)
              | ((with_reducible apply CW.cond); exact rfl; all_goals intro h))
            refine Again.mk (k + 1) rfl ⟨vsucc (by omega), ?_, trivial⟩ ⟨hlt, H.sub (by repeat (first | exact List.Sublist.refl _ | exact List.nil_sublist _ | apply List.Sublist.cons₂ | apply List.Sublist.cons))⟩ (by omega)
            show Value.bool _ = Value.bool _
            congr 1
            rw [metTo]
            rw [show ((x.bids.getD k default).acct != (x.bids.getD m default).acct) = false from by simp only [bne, h3, Bool.not_true], Bool.false_and, Bool.or_false]
          · have hkm : k ≠ m := by rintro rfl; simp at h3
            obtain ⟨g1, g2⟩ := f8 k hlt hkm
            have hb : metTo x.bids (x.bids.getD m default).acct wm (wm == x.reserve || !x.sealed) (k + 1) = (metTo x.bids (x.bids.getD m default).acct wm (wm == x.reserve || !x.sealed) k || (x.bids.getD k default).amount == wm) := by
              rw [metTo, show ((x.bids.getD k default).acct != (x.bids.getD m default).acct) = true from by simp only [bne, h3, Bool.not_false], Bool.true_and]
            repeat' (first
                | ((with_reducible apply OW.p sg); exact rfl; exact rfl; exact rfl; exact rfl)
                | ((with_reducible apply QW.p sg); exact rfl; exact rfl; exact rfl; exact rfl)
                | ((with_reducible apply OW.go); exact rfl)
                | ((with_reducible apply QW.go); exact rfl)
                | ((with_reducible apply OX.pure sg); exact rfl; exact rfl; exact rfl)
                | ((with_reducible apply QX.pure sg); exact rfl; exact rfl; exact rfl)
                | ((with_reducible apply OX.val); exact rfl; exact rfl; exact Yq.loadS sg rfl rfl H.mem (by first | exact List.Mem.head _ | exact List.Mem.tail _ (List.Mem.head _) | exact List.Mem.tail _ (List.Mem.tail _ (List.Mem.head _)) | exact List.Mem.tail _ (List.Mem.tail _ (List.Mem.tail _ (List.Mem.head _))) | exact List.Mem.tail _ (List.Mem.tail _ (List.Mem.tail _ (List.Mem.tail _ (List.Mem.head _)))) | (repeat (first | exact List.Mem.head _ | refine List.Mem.tail _ ?_))) rfl rfl)
                | ((with_reducible apply QX.val); exact rfl; exact rfl; exact Yq.loadS sg rfl rfl H.mem (by first | exact List.Mem.head _ | exact List.Mem.tail _ (List.Mem.head _) | exact List.Mem.tail _ (List.Mem.tail _ (List.Mem.head _)) | exact List.Mem.tail _ (List.Mem.tail _ (List.Mem.tail _ (List.Mem.head _))) | exact List.Mem.tail _ (List.Mem.tail _ (List.Mem.tail _ (List.Mem.tail _ (List.Mem.head _)))) | (repeat (first | exact List.Mem.head _ | refine List.Mem.tail _ ?_))) rfl rfl)
                | (refine OX.box H rfl rfl rfl rfl rfl ?_; intro b w H _)
                | (refine OX.alloc sg H rfl rfl rfl rfl rfl ?_; intro b w H _)
                | ((with_reducible apply OX.store sg H); exact rfl; exact rfl; exact rfl; exact rfl; exact rfl; exact rfl; (repeat (first | exact Up.here | apply Up.there)); exact rfl; exact rfl; exact rfl; exact rfl; intro w H)
                | ((with_reducible apply RW.nil); exact rfl)
                | ((with_reducible apply OW.gY); exact rfl; exact rfl; exact rfl)
                | ((with_reducible apply OW.gN); exact rfl; exact rfl; exact rfl; exact rfl; exact rfl)
                | ((with_reducible apply QW.gY); exact rfl; exact rfl; exact rfl)
                | ((with_reducible apply QW.gN); exact rfl; exact rfl; exact rfl; exact rfl; exact rfl)
                | ((with_reducible apply OW.gS); exact rfl; exact rfl; exact rfl; all_goals (intro h; try (exfalso; first | ((simp only [decide_eq_true_eq, decide_eq_false_iff_not, beq_iff_eq, beq_eq_false_iff_ne, bne_iff_ne, ne_eq, Bool.not_eq_true, Int.not_lt, Int.not_le, gt_iff_lt, ge_iff_le] at h; omega); done))))
                | ((with_reducible apply QW.gS); exact rfl; exact rfl; exact rfl; all_goals (intro h; try (exfalso; first | ((simp only [decide_eq_true_eq, decide_eq_false_iff_not, beq_iff_eq, beq_eq_false_iff_ne, bne_iff_ne, ne_eq, Bool.not_eq_true, Int.not_lt, Int.not_le, gt_iff_lt, ge_iff_le] at h; omega); done))))
                | with_reducible apply OW.app
                | with_reducible apply OW.app0
                | with_reducible apply QW.app
                | with_reducible apply QW.app0
                | with_reducible apply OW.nil
                | ((with_reducible apply QW.nil); intro w hcl; replace H := H.ext hcl; clear hcl)
                | ((with_reducible apply RW.one); exact rfl; decide +kernel)
                | with_reducible apply thn_n
                | with_reducible apply CW.seq
                | with_reducible apply CW.region
                | ((with_reducible apply CW.regionD mixed); decide +kernel)
                | with_reducible apply CW.block
                | with_reducible apply CW.ret
                | with_reducible apply CW.exit
                | with_reducible apply CW.skip
                | with_reducible apply thn_r
                | with_reducible apply thn_e
                | with_reducible apply blk_n
                | with_reducible apply blk_r
                | ((with_reducible apply blk_e1); exact rfl)
                | ((with_reducible apply blk_e0); exact rfl)
                | ((with_reducible apply CW.condT); exact rfl)
                | ((with_reducible apply CW.condF); exact rfl)
                | ((with_reducible apply CW.cond); exact rfl; all_goals (intro h; try (exfalso; first | ((simp only [decide_eq_true_eq, decide_eq_false_iff_not, beq_iff_eq, beq_eq_false_iff_ne, bne_iff_ne, ne_eq, Bool.not_eq_true, Int.not_lt, Int.not_le, gt_iff_lt, ge_iff_le] at h; omega); done)))))
            all_goals
              refine Again.mk (k + 1) rfl ⟨vsucc (by omega), ?_, trivial⟩ ⟨hlt, H.sub (by repeat (first | exact List.Sublist.refl _ | exact List.nil_sublist _ | apply List.Sublist.cons₂ | apply List.Sublist.cons))⟩ (by omega)
              show Value.bool _ = Value.bool _
              congr 1
              rw [hb, h]
              try rfl
        · have hkn : k = x.bids.length := by simp at h2; omega
          subst hkn
          have hmet : metTo x.bids (x.bids.getD m default).acct wm (wm == x.reserve || !x.sealed) x.bids.length = true := by
            refine metTo_true _ ?_
            rcases f9 with f9 | f9 | ⟨j, g1, g2, g3⟩
            · left; rw [f9]; simp
            · left; rw [f9]; simp
            · right
              refine ⟨j, g1, ?_, g3⟩
              rcases Nat.lt_or_gt_of_ne g2 with g2 | g2
              · exact may_uniq hm j m g2 f1
              · exact fun e => may_uniq hm m j g2 g1 e.symm
          rw [hmet]
          repeat' (first
              | ((with_reducible apply OW.p sg); exact rfl; exact rfl; exact rfl; exact rfl)
              | ((with_reducible apply QW.p sg); exact rfl; exact rfl; exact rfl; exact rfl)
              | ((with_reducible apply OW.go); exact rfl)
              | ((with_reducible apply QW.go); exact rfl)
              | ((with_reducible apply OX.pure sg); exact rfl; exact rfl; exact rfl)
              | ((with_reducible apply QX.pure sg); exact rfl; exact rfl; exact rfl)
              | ((with_reducible apply OX.val); exact rfl; exact rfl; exact Yq.loadS sg rfl rfl H.mem (by first | exact List.Mem.head _ | exact List.Mem.tail _ (List.Mem.head _) | exact List.Mem.tail _ (List.Mem.tail _ (List.Mem.head _)) | exact List.Mem.tail _ (List.Mem.tail _ (List.Mem.tail _ (List.Mem.head _))) | exact List.Mem.tail _ (List.Mem.tail _ (List.Mem.tail _ (List.Mem.tail _ (List.Mem.head _)))) | (repeat (first | exact List.Mem.head _ | refine List.Mem.tail _ ?_))) rfl rfl)
              | ((with_reducible apply QX.val); exact rfl; exact rfl; exact Yq.loadS sg rfl rfl H.mem (by first | exact List.Mem.head _ | exact List.Mem.tail _ (List.Mem.head _) | exact List.Mem.tail _ (List.Mem.tail _ (List.Mem.head _)) | exact List.Mem.tail _ (List.Mem.tail _ (List.Mem.tail _ (List.Mem.head _))) | exact List.Mem.tail _ (List.Mem.tail _ (List.Mem.tail _ (List.Mem.tail _ (List.Mem.head _)))) | (repeat (first | exact List.Mem.head _ | refine List.Mem.tail _ ?_))) rfl rfl)
              | (refine OX.box H rfl rfl rfl rfl rfl ?_; intro b w H _)
              | (refine OX.alloc sg H rfl rfl rfl rfl rfl ?_; intro b w H _)
              | ((with_reducible apply OX.store sg H); exact rfl; exact rfl; exact rfl; exact rfl; exact rfl; exact rfl; (repeat (first | exact Up.here | apply Up.there)); exact rfl; exact rfl; exact rfl; exact rfl; intro w H)
              | ((with_reducible apply RW.nil); exact rfl)
              | ((with_reducible apply OW.gY); exact rfl; exact rfl; exact rfl)
              | ((with_reducible apply OW.gN); exact rfl; exact rfl; exact rfl; exact rfl; exact rfl)
              | ((with_reducible apply QW.gY); exact rfl; exact rfl; exact rfl)
              | ((with_reducible apply QW.gN); exact rfl; exact rfl; exact rfl; exact rfl; exact rfl)
              | ((with_reducible apply OW.gS); exact rfl; exact rfl; exact rfl; all_goals intro h)
              | ((with_reducible apply QW.gS); exact rfl; exact rfl; exact rfl; all_goals intro h)
              | with_reducible apply OW.app
              | with_reducible apply OW.app0
              | with_reducible apply QW.app
              | with_reducible apply QW.app0
              | with_reducible apply OW.nil
              | ((with_reducible apply QW.nil); intro w hcl; replace H := H.ext hcl; clear hcl)
              | ((with_reducible apply RW.one); exact rfl; decide +kernel)
              | with_reducible apply thn_n
              | with_reducible apply CW.seq
              | with_reducible apply CW.region
              | ((with_reducible apply CW.regionD mixed); decide +kernel)
              | with_reducible apply CW.block
              | with_reducible apply CW.ret
              | with_reducible apply CW.exit
              | with_reducible apply CW.skip
              | with_reducible apply thn_r
              | with_reducible apply thn_e
              | with_reducible apply blk_n
              | with_reducible apply blk_r
              | ((with_reducible apply blk_e1); exact rfl)
              | ((with_reducible apply blk_e0); exact rfl)
              | ((with_reducible apply CW.condT); exact rfl)
              | ((with_reducible apply CW.condF); exact rfl)
              | ((with_reducible apply CW.cond); exact rfl; all_goals intro h))
          exact ret1 rfl H.cl rfl
end Go.Proofs.Ytkcoemikglbomaa
