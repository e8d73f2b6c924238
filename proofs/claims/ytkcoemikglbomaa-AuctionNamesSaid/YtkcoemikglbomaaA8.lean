/- The auction's layer, walked: who wins. -/
import Derived.Test.YtkcoemikglbomaaA7
namespace Go.Proofs.Ytkcoemikglbomaa
open Go Go.Sk Go.RowKit
def mx (a b : Int) : Int := if b > a then b else a
def prTo (l : List Bid) (res : Int) (i : Int) : Nat → Int
  | 0 => res
  | k + 1 => if ((k : Int) != i) = true then mx (prTo l res i k) (l.getD k default).amount else prTo l res i k
def swinF (x : Auc) : Bid × Bool :=
  if hi x.bids < 0 || decide ((x.bids.getD (hi x.bids).toNat default).amount < x.reserve) then (Bid.zero, false)
  else (⟨(x.bids.getD (hi x.bids).toNat default).acct, prTo x.bids x.reserve (hi x.bids) x.bids.length⟩, true)
def ewinF (x : Auc) : Bid × Bool := if (x.bids.length : Int) == 0 then (Bid.zero, false) else (x.bids.getD 0 default, true)
set_option maxHeartbeats 1000000 in
theorem c_ewins {a : Option Addr} {cap : Nat} (x : Auc) {F : Frag} (w0 : World) (hF : Mem w0 F) (hs : Bids F a cap x.bids) :
    Calls Try.prog 93 [.agg #[], .agg (x.cells a cap).toArray].toArray w0 (Ret (.tuple #[.agg (ewinF x).1.cells.toArray, .bool (ewinF x).2]) w0) := by
  obtain ⟨hn, hc, b0, off, cs, T, fr, hs⟩ := hs
  refine enter [.cell 4 26, .tmp 5] Try.func93 rfl Try.ntmps93 rfl rfl ?_
  have H := St.start w0
  repeat' (first
      | ((with_reducible apply OW.p sg); exact rfl; exact rfl; exact rfl; exact rfl)
      | ((with_reducible apply QW.p sg); exact rfl; exact rfl; exact rfl; exact rfl)
      | ((with_reducible apply OW.go); exact rfl)
      | ((with_reducible apply QW.go); exact rfl)
      | ((with_reducible apply OX.pure sg); exact rfl; exact rfl; exact rfl)
      | ((with_reducible apply QX.pure sg); exact rfl; exact rfl; exact rfl)
      | ((with_reducible apply OX.val); exact rfl; exact rfl; exact Yq.loadS sg rfl rfl H.mem (by first | exact List.Mem.head _ | exact List.Mem.tail _ (List.Mem.head _) | exact List.Mem.tail _ (List.Mem.tail _ (List.Mem.head _)) | exact List.Mem.tail _ (List.Mem.tail _ (List.Mem.tail _ (List.Mem.head _))) | exact List.Mem.tail _ (List.Mem.tail _ (List.Mem.tail _ (List.Mem.tail _ (List.Mem.head _)))) | (repeat (first | exact List.Mem.head _ | refine List.Mem.tail _ ?_))) rfl rfl)
      | ((with_reducible apply QX.val); exact rfl; exact rfl; exact Yq.loadS sg rfl rfl H.mem (by first | exact List.Mem.head _ | exact List.Mem.tail _ (List.Mem.head _) | exact List.Mem.tail _ (List.Mem.tail _ (List.Mem.head _)) | exact List.Mem.tail _ (List.Mem.tail _ (List.Mem.tail _ (List.Mem.head _))) | exact List.Mem.tail _ (List.Mem.tail _ (List.Mem.tail _ (List.Mem.tail _ (List.Mem.head _)))) | (repeat (first | exact List.Mem.head _ | refine List.Mem.tail _ ?_))) rfl rfl)
      | (refine OX.box H rfl rfl rfl rfl rfl ?_; intro b w H _)
      | (refine OX.alloc sg H rfl rfl rfl rfl rfl ?_; intro b w H _)
      | ((with_reducible apply OX.store sg H); exact rfl; exact rfl; exact rfl; exact rfl; exact rfl; exact rfl; (repeat (first | exact Up.here | apply Up.there)); exact rfl; exact rfl; exact rfl; exact rfl; intro w H)
      | ((with_reducible apply RW.nil); exact rfl)
      | ((with_reducible apply OX.val); exact rfl; exact rfl; exact Yq.ixB sg hs rfl rfl rfl rfl rfl rfl rfl (by first | with_reducible exact Int.toNat_natCast _ | exact toNat_pred (by omega) (by omega) | with_reducible exact toNat_0 | exact toNat_self _) (by omega) (by (have := neI h; omega)))
      | ((with_reducible apply QX.val); exact rfl; exact rfl; exact Yq.ixB sg hs rfl rfl rfl rfl rfl rfl rfl (by first | with_reducible exact Int.toNat_natCast _ | exact toNat_pred (by omega) (by omega) | with_reducible exact toNat_0 | exact toNat_self _) (by omega) (by (have := neI h; omega)))
      | ((with_reducible apply OX.val); exact rfl; exact rfl; exact Yq.loadB sg hs (H.memF hF) rfl rfl rfl rfl rfl (by (have := neI h; omega)))
      | ((with_reducible apply QX.val); exact rfl; exact rfl; exact Yq.loadB sg hs (H.memF hF) rfl rfl rfl rfl rfl (by (have := neI h; omega)))
      | ((with_reducible apply OW.gY); exact rfl; exact rfl; exact rfl)
      | ((with_reducible apply OW.gN); exact rfl; exact rfl; exact rfl; exact rfl; exact rfl)
      | ((with_reducible apply QW.gY); exact rfl; exact rfl; exact rfl)
      | ((with_reducible apply QW.gN); exact rfl; exact rfl; exact rfl; exact rfl; exact rfl)
      | ((with_reducible apply OW.gS); exact rfl; exact rfl; exact rfl; all_goals intro h)
      | ((with_reducible apply QW.gS); exact rfl; exact rfl; exact rfl; all_goals intro h)
      | with_reducible apply OW.app
      | with_reducible apply OW.app0
      | with_reducible apply QW.app
      | with_reducible apply QW.app0
      | with_reducible apply OW.nil
      | ((with_reducible apply QW.nil); intro w hcl; replace H := H.ext hcl; clear hcl)
      | ((with_reducible apply RW.one); exact rfl; decide +kernel)
      | with_reducible apply thn_n
      | with_reducible apply CW.seq
      | with_reducible apply CW.region
      | ((with_reducible apply CW.regionD mixed); decide +kernel)
      | with_reducible apply CW.block
      | with_reducible apply CW.ret
      | with_reducible apply CW.exit
      | with_reducible apply CW.skip
      | with_reducible apply thn_r
      | with_reducible apply thn_e
      | with_reducible apply blk_n
      | with_reducible apply blk_r
      | ((with_reducible apply blk_e1); exact rfl)
      | ((with_reducible apply blk_e0); exact rfl)
      | ((with_reducible apply CW.condT); exact rfl)
      | ((with_reducible apply CW.condF); exact rfl)
      | ((with_reducible apply CW.cond); exact rfl; all_goals intro h))
  all_goals first
    | (refine retV (vs := [_, _]) ⟨rdvC sg rfl H.mem (List.Mem.head _) rfl rfl, rdvT rfl, trivial⟩ H.cl ?_
       simp only [ewinF, *]
       rfl)
set_option maxHeartbeats 2000000 in
theorem c_swins {a : Option Addr} {cap : Nat} (x : Auc) {F : Frag} (w0 : World) (hF : Mem w0 F) (hs0 : Bids F a cap x.bids) :
    Calls Try.prog 88 [.agg #[], .agg (x.cells a cap).toArray].toArray w0 (Ret (.tuple #[.agg (swinF x).1.cells.toArray, .bool (swinF x).2]) w0) := by
  have hs1 := hs0
  obtain ⟨hn, hc, b0, off, cs, T, fr, hs⟩ := hs1
  have hh : -1 ≤ hi x.bids ∧ hi x.bids < x.bids.length := hiTo_lt _ _
  refine enter [.cell 4 26, .tmp 5] Try.func88 rfl Try.ntmps88 rfl rfl ?_
  have H := St.start w0
  repeat' (first
      | ((with_reducible apply OW.p sg); exact rfl; exact rfl; exact rfl; exact rfl)
      | ((with_reducible apply QW.p sg); exact rfl; exact rfl; exact rfl; exact rfl)
      | ((with_reducible apply OW.go); exact rfl)
      | ((with_reducible apply QW.go); exact rfl)
      | ((with_reducible apply OX.pure sg); exact rfl; exact rfl; exact rfl)
      | ((with_reducible apply QX.pure sg); exact rfl; exact rfl; exact rfl)
      | ((with_reducible apply OX.val); exact rfl; exact rfl; exact Yq.loadS sg rfl rfl H.mem (by first | exact List.Mem.head _ | exact List.Mem.tail _ (List.Mem.head _) | exact List.Mem.tail _ (List.Mem.tail _ (List.Mem.head _)) | exact List.Mem.tail _ (List.Mem.tail _ (List.Mem.tail _ (List.Mem.head _))) | exact List.Mem.tail _ (List.Mem.tail _ (List.Mem.tail _ (List.Mem.tail _ (List.Mem.head _)))) | (repeat (first | exact List.Mem.head _ | refine List.Mem.tail _ ?_))) rfl rfl)
      | ((with_reducible apply QX.val); exact rfl; exact rfl; exact Yq.loadS sg rfl rfl H.mem (by first | exact List.Mem.head _ | exact List.Mem.tail _ (List.Mem.head _) | exact List.Mem.tail _ (List.Mem.tail _ (List.Mem.head _)) | exact List.Mem.tail _ (List.Mem.tail _ (List.Mem.tail _ (List.Mem.head _))) | exact List.Mem.tail _ (List.Mem.tail _ (List.Mem.tail _ (List.Mem.tail _ (List.Mem.head _)))) | (repeat (first | exact List.Mem.head _ | refine List.Mem.tail _ ?_))) rfl rfl)
      | (refine OX.box H rfl rfl rfl rfl rfl ?_; intro b w H _)
      | (refine OX.alloc sg H rfl rfl rfl rfl rfl ?_; intro b w H _)
      | ((with_reducible apply OX.store sg H); exact rfl; exact rfl; exact rfl; exact rfl; exact rfl; exact rfl; (repeat (first | exact Up.here | apply Up.there)); exact rfl; exact rfl; exact rfl; exact rfl; intro w H)
      | ((with_reducible apply RW.nil); exact rfl)
      | ((with_reducible apply OX.val); exact rfl; exact rfl; exact Yq.ixB sg hs rfl rfl rfl rfl rfl rfl rfl (by first | with_reducible exact Int.toNat_natCast _ | exact toNat_pred (by omega) (by omega) | with_reducible exact toNat_0 | exact toNat_self _) (by (have := of_decide_eq_false ‹decide (hi x.bids < 0) = false›; omega)) (by omega))
      | ((with_reducible apply QX.val); exact rfl; exact rfl; exact Yq.ixB sg hs rfl rfl rfl rfl rfl rfl rfl (by first | with_reducible exact Int.toNat_natCast _ | exact toNat_pred (by omega) (by omega) | with_reducible exact toNat_0 | exact toNat_self _) (by (have := of_decide_eq_false ‹decide (hi x.bids < 0) = false›; omega)) (by omega))
      | ((with_reducible apply OX.val); exact rfl; exact rfl; exact Yq.loadBf sg hs (H.memF hF) rfl rfl rfl rfl (by (have := of_decide_eq_false ‹decide (hi x.bids < 0) = false›; omega)) rfl rfl)
      | ((with_reducible apply QX.val); exact rfl; exact rfl; exact Yq.loadBf sg hs (H.memF hF) rfl rfl rfl rfl (by (have := of_decide_eq_false ‹decide (hi x.bids < 0) = false›; omega)) rfl rfl)
      | ((with_reducible apply OX.call); exact rfl; exact rfl; exact En.fn ent48 rfl rfl; exact c_highest x.bids _ (H.memF hF) hs0; intro w hcl; replace H := H.ext hcl; clear hcl)
      | ((with_reducible apply QX.call); exact rfl; exact rfl; exact En.fn ent48 rfl rfl; exact (fun _ hcl => c_highest x.bids _ ((H.ext hcl).memF hF) hs0))
      | ((with_reducible apply OW.gY); exact rfl; exact rfl; exact rfl)
      | ((with_reducible apply OW.gN); exact rfl; exact rfl; exact rfl; exact rfl; exact rfl)
      | ((with_reducible apply QW.gY); exact rfl; exact rfl; exact rfl)
      | ((with_reducible apply QW.gN); exact rfl; exact rfl; exact rfl; exact rfl; exact rfl)
      | ((with_reducible apply OW.gS); exact rfl; exact rfl; exact rfl; all_goals intro h)
      | ((with_reducible apply QW.gS); exact rfl; exact rfl; exact rfl; all_goals intro h)
      | with_reducible apply OW.app
      | with_reducible apply OW.app0
      | with_reducible apply QW.app
      | with_reducible apply QW.app0
      | with_reducible apply OW.nil
      | ((with_reducible apply QW.nil); intro w hcl; replace H := H.ext hcl; clear hcl)
      | ((with_reducible apply RW.one); exact rfl; decide +kernel)
      | with_reducible apply thn_n
      | with_reducible apply CW.seq
      | with_reducible apply CW.region
      | ((with_reducible apply CW.regionD mixed); decide +kernel)
      | with_reducible apply CW.block
      | with_reducible apply CW.ret
      | with_reducible apply CW.exit
      | with_reducible apply CW.skip
      | with_reducible apply thn_r
      | with_reducible apply thn_e
      | with_reducible apply blk_n
      | with_reducible apply blk_r
      | ((with_reducible apply blk_e1); exact rfl)
      | ((with_reducible apply blk_e0); exact rfl)
      | ((with_reducible apply CW.condT); exact rfl)
      | ((with_reducible apply CW.condF); exact rfl))
  · refine retV (vs := [_, _]) ⟨rdvC sg rfl H.mem (List.Mem.head _) rfl rfl, rdvT rfl, trivial⟩ H.cl ?_
    simp only [swinF, *]
    rfl
  · refine CW.cond rfl (fun h2 => ?_) (fun h2 => ?_)
    · repeat' (first
        | ((with_reducible apply OW.p sg); exact rfl; exact rfl; exact rfl; exact rfl)
        | ((with_reducible apply QW.p sg); exact rfl; exact rfl; exact rfl; exact rfl)
        | ((with_reducible apply OW.go); exact rfl)
        | ((with_reducible apply QW.go); exact rfl)
        | ((with_reducible apply OX.pure sg); exact rfl; exact rfl; exact rfl)
        | ((with_reducible apply QX.pure sg); exact rfl; exact rfl; exact rfl)
        | ((with_reducible apply OX.val); exact rfl; exact rfl; exact Yq.loadS sg rfl rfl H.mem (by first | exact List.Mem.head _ | exact List.Mem.tail _ (List.Mem.head _) | exact List.Mem.tail _ (List.Mem.tail _ (List.Mem.head _)) | exact List.Mem.tail _ (List.Mem.tail _ (List.Mem.tail _ (List.Mem.head _))) | exact List.Mem.tail _ (List.Mem.tail _ (List.Mem.tail _ (List.Mem.tail _ (List.Mem.head _)))) | (repeat (first | exact List.Mem.head _ | refine List.Mem.tail _ ?_))) rfl rfl)
        | ((with_reducible apply QX.val); exact rfl; exact rfl; exact Yq.loadS sg rfl rfl H.mem (by first | exact List.Mem.head _ | exact List.Mem.tail _ (List.Mem.head _) | exact List.Mem.tail _ (List.Mem.tail _ (List.Mem.head _)) | exact List.Mem.tail _ (List.Mem.tail _ (List.Mem.tail _ (List.Mem.head _))) | exact List.Mem.tail _ (List.Mem.tail _ (List.Mem.tail _ (List.Mem.tail _ (List.Mem.head _)))) | (repeat (first | exact List.Mem.head _ | refine List.Mem.tail _ ?_))) rfl rfl)
        | (refine OX.box H rfl rfl rfl rfl rfl ?_; intro b w H _)
        | (refine OX.alloc sg H rfl rfl rfl rfl rfl ?_; intro b w H _)
        | ((with_reducible apply OX.store sg H); exact rfl; exact rfl; exact rfl; exact rfl; exact rfl; exact rfl; (repeat (first | exact Up.here | apply Up.there)); exact rfl; exact rfl; exact rfl; exact rfl; intro w H)
        | ((with_reducible apply RW.nil); exact rfl)
        | ((with_reducible apply OW.gY); exact rfl; exact rfl; exact rfl)
        | ((with_reducible apply OW.gN); exact rfl; exact rfl; exact rfl; exact rfl; exact rfl)
        | ((with_reducible apply QW.gY); exact rfl; exact rfl; exact rfl)
        | ((with_reducible apply QW.gN); exact rfl; exact rfl; exact rfl; exact rfl; exact rfl)
        | ((with_reducible apply OW.gS); exact rfl; exact rfl; exact rfl; all_goals intro h)
        | ((with_reducible apply QW.gS); exact rfl; exact rfl; exact rfl; all_goals intro h)
        | with_reducible apply OW.app
        | with_reducible apply OW.app0
        | with_reducible apply QW.app
        | with_reducible apply QW.app0
        | with_reducible apply OW.nil
        | ((with_reducible apply QW.nil); intro w hcl; replace H := H.ext hcl; clear hcl)
        | ((with_reducible apply RW.one); exact rfl; decide +kernel)
        | with_reducible apply thn_n
        | with_reducible apply CW.seq
        | with_reducible apply CW.region
        | ((with_reducible apply CW.regionD mixed); decide +kernel)
        | with_reducible apply CW.block
        | with_reducible apply CW.ret
        | with_reducible apply CW.exit
        | with_reducible apply CW.skip
        | with_reducible apply thn_r
        | with_reducible apply thn_e
        | with_reducible apply blk_n
        | with_reducible apply blk_r
        | ((with_reducible apply blk_e1); exact rfl)
        | ((with_reducible apply blk_e0); exact rfl)
        | ((with_reducible apply CW.condT); exact rfl)
        | ((with_reducible apply CW.condF); exact rfl))
      refine retV (vs := [_, _]) ⟨rdvC sg rfl H.mem (List.Mem.head _) rfl rfl, rdvT rfl, trivial⟩ H.cl ?_
      simp only [swinF, *]
      rfl
    · have hge := of_decide_eq_false h
      repeat' (first
          | ((with_reducible apply OW.p sg); exact rfl; exact rfl; exact rfl; exact rfl)
          | ((with_reducible apply QW.p sg); exact rfl; exact rfl; exact rfl; exact rfl)
          | ((with_reducible apply OW.go); exact rfl)
          | ((with_reducible apply QW.go); exact rfl)
          | ((with_reducible apply OX.pure sg); exact rfl; exact rfl; exact rfl)
          | ((with_reducible apply QX.pure sg); exact rfl; exact rfl; exact rfl)
          | ((with_reducible apply OX.val); exact rfl; exact rfl; exact Yq.loadS sg rfl rfl H.mem (by first | exact List.Mem.head _ | exact List.Mem.tail _ (List.Mem.head _) | exact List.Mem.tail _ (List.Mem.tail _ (List.Mem.head _)) | exact List.Mem.tail _ (List.Mem.tail _ (List.Mem.tail _ (List.Mem.head _))) | exact List.Mem.tail _ (List.Mem.tail _ (List.Mem.tail _ (List.Mem.tail _ (List.Mem.head _)))) | (repeat (first | exact List.Mem.head _ | refine List.Mem.tail _ ?_))) rfl rfl)
          | ((with_reducible apply QX.val); exact rfl; exact rfl; exact Yq.loadS sg rfl rfl H.mem (by first | exact List.Mem.head _ | exact List.Mem.tail _ (List.Mem.head _) | exact List.Mem.tail _ (List.Mem.tail _ (List.Mem.head _)) | exact List.Mem.tail _ (List.Mem.tail _ (List.Mem.tail _ (List.Mem.head _))) | exact List.Mem.tail _ (List.Mem.tail _ (List.Mem.tail _ (List.Mem.tail _ (List.Mem.head _)))) | (repeat (first | exact List.Mem.head _ | refine List.Mem.tail _ ?_))) rfl rfl)
          | (refine OX.box H rfl rfl rfl rfl rfl ?_; intro b w H _)
          | (refine OX.alloc sg H rfl rfl rfl rfl rfl ?_; intro b w H _)
          | ((with_reducible apply OX.store sg H); exact rfl; exact rfl; exact rfl; exact rfl; exact rfl; exact rfl; (repeat (first | exact Up.here | apply Up.there)); exact rfl; exact rfl; exact rfl; exact rfl; intro w H)
          | ((with_reducible apply RW.nil); exact rfl)
          | ((with_reducible apply OW.gY); exact rfl; exact rfl; exact rfl)
          | ((with_reducible apply OW.gN); exact rfl; exact rfl; exact rfl; exact rfl; exact rfl)
          | ((with_reducible apply QW.gY); exact rfl; exact rfl; exact rfl)
          | ((with_reducible apply QW.gN); exact rfl; exact rfl; exact rfl; exact rfl; exact rfl)
          | ((with_reducible apply OW.gS); exact rfl; exact rfl; exact rfl; all_goals intro h)
          | ((with_reducible apply QW.gS); exact rfl; exact rfl; exact rfl; all_goals intro h)
          | with_reducible apply OW.app
          | with_reducible apply OW.app0
          | with_reducible apply QW.app
          | with_reducible apply QW.app0
          | with_reducible apply OW.nil
          | ((with_reducible apply QW.nil); intro w hcl; replace H := H.ext hcl; clear hcl)
          | ((with_reducible apply RW.one); exact rfl; decide +kernel)
          | with_reducible apply thn_n
          | with_reducible apply CW.seq
          | with_reducible apply CW.region
          | ((with_reducible apply CW.regionD mixed); decide +kernel)
          | with_reducible apply CW.block
          | with_reducible apply CW.ret
          | with_reducible apply CW.exit
          | with_reducible apply CW.skip
          | with_reducible apply thn_r
          | with_reducible apply thn_e
          | with_reducible apply blk_n
          | with_reducible apply blk_r
          | ((with_reducible apply blk_e1); exact rfl)
          | ((with_reducible apply blk_e0); exact rfl)
          | ((with_reducible apply CW.condT); exact rfl)
          | ((with_reducible apply CW.condF); exact rfl))
      refine CW.loopI [(7, 9), (32, 44)] (fun k : Nat => [(32, .int .i64 (k : Int)), (7, .int .i64 (prTo x.bids x.reserve (hi x.bids) k))])
        (fun k w => k ≤ x.bids.length ∧ St w0 [cb _ Bid.zero.cells 26, cb _ (x.cells a cap) 24, cb _ [] 73] w) (fun k => x.bids.length - k) 0 ⟨rfl, rfl, trivial⟩ ⟨Nat.zero_le _, H⟩ ?_
      clear H
      rintro k g w ⟨hk, H⟩
      repeat' (first
          | ((with_reducible apply OW.p sg); exact rfl; exact rfl; exact rfl; exact rfl)
          | ((with_reducible apply QW.p sg); exact rfl; exact rfl; exact rfl; exact rfl)
          | ((with_reducible apply OW.go); exact rfl)
          | ((with_reducible apply QW.go); exact rfl)
          | ((with_reducible apply OX.pure sg); exact rfl; exact rfl; exact rfl)
          | ((with_reducible apply QX.pure sg); exact rfl; exact rfl; exact rfl)
          | ((with_reducible apply OX.val); exact rfl; exact rfl; exact Yq.loadS sg rfl rfl H.mem (by first | exact List.Mem.head _ | exact List.Mem.tail _ (List.Mem.head _) | exact List.Mem.tail _ (List.Mem.tail _ (List.Mem.head _)) | exact List.Mem.tail _ (List.Mem.tail _ (List.Mem.tail _ (List.Mem.head _))) | exact List.Mem.tail _ (List.Mem.tail _ (List.Mem.tail _ (List.Mem.tail _ (List.Mem.head _)))) | (repeat (first | exact List.Mem.head _ | refine List.Mem.tail _ ?_))) rfl rfl)
          | ((with_reducible apply QX.val); exact rfl; exact rfl; exact Yq.loadS sg rfl rfl H.mem (by first | exact List.Mem.head _ | exact List.Mem.tail _ (List.Mem.head _) | exact List.Mem.tail _ (List.Mem.tail _ (List.Mem.head _)) | exact List.Mem.tail _ (List.Mem.tail _ (List.Mem.tail _ (List.Mem.head _))) | exact List.Mem.tail _ (List.Mem.tail _ (List.Mem.tail _ (List.Mem.tail _ (List.Mem.head _)))) | (repeat (first | exact List.Mem.head _ | refine List.Mem.tail _ ?_))) rfl rfl)
          | (refine OX.box H rfl rfl rfl rfl rfl ?_; intro b w H _)
          | (refine OX.alloc sg H rfl rfl rfl rfl rfl ?_; intro b w H _)
          | ((with_reducible apply OX.store sg H); exact rfl; exact rfl; exact rfl; exact rfl; exact rfl; exact rfl; (repeat (first | exact Up.here | apply Up.there)); exact rfl; exact rfl; exact rfl; exact rfl; intro w H)
          | ((with_reducible apply RW.nil); exact rfl)
          | ((with_reducible apply OW.gY); exact rfl; exact rfl; exact rfl)
          | ((with_reducible apply OW.gN); exact rfl; exact rfl; exact rfl; exact rfl; exact rfl)
          | ((with_reducible apply QW.gY); exact rfl; exact rfl; exact rfl)
          | ((with_reducible apply QW.gN); exact rfl; exact rfl; exact rfl; exact rfl; exact rfl)
          | ((with_reducible apply OW.gS); exact rfl; exact rfl; exact rfl; all_goals intro h)
          | ((with_reducible apply QW.gS); exact rfl; exact rfl; exact rfl; all_goals intro h)
          | with_reducible apply OW.app
          | with_reducible apply OW.app0
          | with_reducible apply QW.app
          | with_reducible apply QW.app0
          | with_reducible apply OW.nil
          | ((with_reducible apply QW.nil); intro w hcl; replace H := H.ext hcl; clear hcl)
          | ((with_reducible apply RW.one); exact rfl; decide +kernel)
          | with_reducible apply thn_n
          | with_reducible apply CW.seq
          | with_reducible apply CW.region
          | ((with_reducible apply CW.regionD mixed); decide +kernel)
          | with_reducible apply CW.block
          | with_reducible apply CW.ret
          | with_reducible apply CW.exit
          | with_reducible apply CW.skip
          | with_reducible apply thn_r
          | with_reducible apply thn_e
          | with_reducible apply blk_n
          | with_reducible apply blk_r
          | ((with_reducible apply blk_e1); exact rfl)
          | ((with_reducible apply blk_e0); exact rfl)
          | ((with_reducible apply CW.condT); exact rfl)
          | ((with_reducible apply CW.condF); exact rfl))
      refine CW.cond rfl (fun h3 => ?_) (fun h3 => ?_)
      · have hlt : k < x.bids.length := by simpa using h3
        repeat' (first
            | ((with_reducible apply OW.p sg); exact rfl; exact rfl; exact rfl; exact rfl)
            | ((with_reducible apply QW.p sg); exact rfl; exact rfl; exact rfl; exact rfl)
            | ((with_reducible apply OW.go); exact rfl)
            | ((with_reducible apply QW.go); exact rfl)
            | ((with_reducible apply OX.pure sg); exact rfl; exact rfl; exact rfl)
            | ((with_reducible apply QX.pure sg); exact rfl; exact rfl; exact rfl)
            | ((with_reducible apply OX.val); exact rfl; exact rfl; exact Yq.loadS sg rfl rfl H.mem (by first | exact List.Mem.head _ | exact List.Mem.tail _ (List.Mem.head _) | exact List.Mem.tail _ (List.Mem.tail _ (List.Mem.head _)) | exact List.Mem.tail _ (List.Mem.tail _ (List.Mem.tail _ (List.Mem.head _))) | exact List.Mem.tail _ (List.Mem.tail _ (List.Mem.tail _ (List.Mem.tail _ (List.Mem.head _)))) | (repeat (first | exact List.Mem.head _ | refine List.Mem.tail _ ?_))) rfl rfl)
            | ((with_reducible apply QX.val); exact rfl; exact rfl; exact Yq.loadS sg rfl rfl H.mem (by first | exact List.Mem.head _ | exact List.Mem.tail _ (List.Mem.head _) | exact List.Mem.tail _ (List.Mem.tail _ (List.Mem.head _)) | exact List.Mem.tail _ (List.Mem.tail _ (List.Mem.tail _ (List.Mem.head _))) | exact List.Mem.tail _ (List.Mem.tail _ (List.Mem.tail _ (List.Mem.tail _ (List.Mem.head _)))) | (repeat (first | exact List.Mem.head _ | refine List.Mem.tail _ ?_))) rfl rfl)
            | (refine OX.box H rfl rfl rfl rfl rfl ?_; intro b w H _)
            | (refine OX.alloc sg H rfl rfl rfl rfl rfl ?_; intro b w H _)
            | ((with_reducible apply OX.store sg H); exact rfl; exact rfl; exact rfl; exact rfl; exact rfl; exact rfl; (repeat (first | exact Up.here | apply Up.there)); exact rfl; exact rfl; exact rfl; exact rfl; intro w H)
            | ((with_reducible apply RW.nil); exact rfl)
            | ((with_reducible apply OX.val); exact rfl; exact rfl; exact Yq.ixB sg hs rfl rfl rfl rfl rfl rfl rfl (by first | with_reducible exact Int.toNat_natCast _ | exact toNat_pred (by omega) (by omega) | with_reducible exact toNat_0 | exact toNat_self _) (by omega) (by omega))
            | ((with_reducible apply QX.val); exact rfl; exact rfl; exact Yq.ixB sg hs rfl rfl rfl rfl rfl rfl rfl (by first | with_reducible exact Int.toNat_natCast _ | exact toNat_pred (by omega) (by omega) | with_reducible exact toNat_0 | exact toNat_self _) (by omega) (by omega))
            | ((with_reducible apply OX.val); exact rfl; exact rfl; exact Yq.loadB sg hs (H.memF hF) rfl rfl rfl rfl rfl (by omega))
            | ((with_reducible apply QX.val); exact rfl; exact rfl; exact Yq.loadB sg hs (H.memF hF) rfl rfl rfl rfl rfl (by omega))
            | ((with_reducible apply OW.gY); exact rfl; exact rfl; exact rfl)
            | ((with_reducible apply OW.gN); exact rfl; exact rfl; exact rfl; exact rfl; exact rfl)
            | ((with_reducible apply QW.gY); exact rfl; exact rfl; exact rfl)
            | ((with_reducible apply QW.gN); exact rfl; exact rfl; exact rfl; exact rfl; exact rfl)
            | ((with_reducible apply OW.gS); exact rfl; exact rfl; exact rfl; all_goals intro h)
            | ((with_reducible apply QW.gS); exact rfl; exact rfl; exact rfl; all_goals intro h)
            | with_reducible apply OW.app
            | with_reducible apply OW.app0
            | with_reducible apply QW.app
            | with_reducible apply QW.app0
            | with_reducible apply OW.nil
            | ((with_reducible apply QW.nil); intro w hcl; replace H := H.ext hcl; clear hcl)
            | ((with_reducible apply RW.one); exact rfl; decide +kernel)
            | with_reducible apply thn_n
            | with_reducible apply CW.seq
            | with_reducible apply CW.region
            | ((with_reducible apply CW.regionD mixed); decide +kernel)
            | with_reducible apply CW.block
            | with_reducible apply CW.ret
            | with_reducible apply CW.exit
            | with_reducible apply CW.skip
            | with_reducible apply thn_r
            | with_reducible apply thn_e
            | with_reducible apply blk_n
            | with_reducible apply blk_r
            | ((with_reducible apply blk_e1); exact rfl)
            | ((with_reducible apply blk_e0); exact rfl)
            | ((with_reducible apply CW.condT); exact rfl)
            | ((with_reducible apply CW.condF); exact rfl)
            | ((with_reducible apply CW.cond); exact rfl; all_goals intro h))
        all_goals refine Again.mk (k + 1) rfl ⟨vsucc (by omega), ?_, trivial⟩ ⟨hlt, H.sub (by repeat (first | exact List.Sublist.refl _ | exact List.nil_sublist _ | apply List.Sublist.cons₂ | apply List.Sublist.cons))⟩ (by omega)
        · show Value.int .i64 (mx _ _) = _
          rw [prTo, if_pos ‹_›]
        · show Value.int .i64 (prTo x.bids x.reserve (hi x.bids) k) = _
          rw [prTo, if_neg (by simp only [*]; simp)]
      · have hkn : k = x.bids.length := by simp at h3; omega
        subst hkn
        repeat' (first
            | ((with_reducible apply OW.p sg); exact rfl; exact rfl; exact rfl; exact rfl)
            | ((with_reducible apply QW.p sg); exact rfl; exact rfl; exact rfl; exact rfl)
            | ((with_reducible apply OW.go); exact rfl)
            | ((with_reducible apply QW.go); exact rfl)
            | ((with_reducible apply OX.pure sg); exact rfl; exact rfl; exact rfl)
            | ((with_reducible apply QX.pure sg); exact rfl; exact rfl; exact rfl)
            | ((with_reducible apply OX.val); exact rfl; exact rfl; exact Yq.loadS sg rfl rfl H.mem (by first | exact List.Mem.head _ | exact List.Mem.tail _ (List.Mem.head _) | exact List.Mem.tail _ (List.Mem.tail _ (List.Mem.head _)) | exact List.Mem.tail _ (List.Mem.tail _ (List.Mem.tail _ (List.Mem.head _))) | exact List.Mem.tail _ (List.Mem.tail _ (List.Mem.tail _ (List.Mem.tail _ (List.Mem.head _)))) | (repeat (first | exact List.Mem.head _ | refine List.Mem.tail _ ?_))) rfl rfl)
            | ((with_reducible apply QX.val); exact rfl; exact rfl; exact Yq.loadS sg rfl rfl H.mem (by first | exact List.Mem.head _ | exact List.Mem.tail _ (List.Mem.head _) | exact List.Mem.tail _ (List.Mem.tail _ (List.Mem.head _)) | exact List.Mem.tail _ (List.Mem.tail _ (List.Mem.tail _ (List.Mem.head _))) | exact List.Mem.tail _ (List.Mem.tail _ (List.Mem.tail _ (List.Mem.tail _ (List.Mem.head _)))) | (repeat (first | exact List.Mem.head _ | refine List.Mem.tail _ ?_))) rfl rfl)
            | (refine OX.box H rfl rfl rfl rfl rfl ?_; intro b w H _)
            | (refine OX.alloc sg H rfl rfl rfl rfl rfl ?_; intro b w H _)
            | ((with_reducible apply OX.store sg H); exact rfl; exact rfl; exact rfl; exact rfl; exact rfl; exact rfl; (repeat (first | exact Up.here | apply Up.there)); exact rfl; exact rfl; exact rfl; exact rfl; intro w H)
            | ((with_reducible apply RW.nil); exact rfl)
            | ((with_reducible apply OX.val); exact rfl; exact rfl; exact Yq.ixB sg hs rfl rfl rfl rfl rfl rfl rfl (by first | with_reducible exact Int.toNat_natCast _ | exact toNat_pred (by omega) (by omega) | with_reducible exact toNat_0 | exact toNat_self _) (by omega) (by omega))
            | ((with_reducible apply QX.val); exact rfl; exact rfl; exact Yq.ixB sg hs rfl rfl rfl rfl rfl rfl rfl (by first | with_reducible exact Int.toNat_natCast _ | exact toNat_pred (by omega) (by omega) | with_reducible exact toNat_0 | exact toNat_self _) (by omega) (by omega))
            | ((with_reducible apply OX.val); exact rfl; exact rfl; exact Yq.loadBf sg hs (H.memF hF) rfl rfl rfl rfl (by omega) rfl rfl)
            | ((with_reducible apply QX.val); exact rfl; exact rfl; exact Yq.loadBf sg hs (H.memF hF) rfl rfl rfl rfl (by omega) rfl rfl)
            | ((with_reducible apply OW.gY); exact rfl; exact rfl; exact rfl)
            | ((with_reducible apply OW.gN); exact rfl; exact rfl; exact rfl; exact rfl; exact rfl)
            | ((with_reducible apply QW.gY); exact rfl; exact rfl; exact rfl)
            | ((with_reducible apply QW.gN); exact rfl; exact rfl; exact rfl; exact rfl; exact rfl)
            | ((with_reducible apply OW.gS); exact rfl; exact rfl; exact rfl; all_goals intro h)
            | ((with_reducible apply QW.gS); exact rfl; exact rfl; exact rfl; all_goals intro h)
            | with_reducible apply OW.app
            | with_reducible apply OW.app0
            | with_reducible apply QW.app
            | with_reducible apply QW.app0
            | with_reducible apply OW.nil
            | ((with_reducible apply QW.nil); intro w hcl; replace H := H.ext hcl; clear hcl)
            | ((with_reducible apply RW.one); exact rfl; decide +kernel)
            | with_reducible apply thn_n
            | with_reducible apply CW.seq
            | with_reducible apply CW.region
            | ((with_reducible apply CW.regionD mixed); decide +kernel)
            | with_reducible apply CW.block
            | with_reducible apply CW.ret
            | with_reducible apply CW.exit
            | with_reducible apply CW.skip
            | with_reducible apply thn_r
            | with_reducible apply thn_e
            | with_reducible apply blk_n
            | with_reducible apply blk_r
            | ((with_reducible apply blk_e1); exact rfl)
            | ((with_reducible apply blk_e0); exact rfl)
            | ((with_reducible apply CW.condT); exact rfl)
            | ((with_reducible apply CW.condF); exact rfl)
            | ((with_reducible apply CW.cond); exact rfl; all_goals intro h))
        refine retV (vs := [_, _]) ⟨rdvC sg rfl H.mem (List.Mem.head _) rfl rfl, rdvT rfl, trivial⟩ H.cl ?_
        simp only [swinF, *]
        rfl
end Go.Proofs.Ytkcoemikglbomaa
