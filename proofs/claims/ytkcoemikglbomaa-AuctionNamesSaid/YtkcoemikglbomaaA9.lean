/- The auction's layer, walked: Winner, Least. -/
import Derived.Test.YtkcoemikglbomaaA8
import Derived.Test.YtkcoemikglbomaaM1
namespace Go.Proofs.Ytkcoemikglbomaa
open Go Go.Sk Go.RowKit
def winF (x : Auc) : Bid × Bool := if mayF x then (if x.sealed then swinF x else ewinF x) else (Bid.zero, false)
theorem c_Winner {a : Option Addr} {cap : Nat} (x : Auc) {F : Frag} (w0 : World) (hF : Mem w0 F) (hs : Bids F a cap x.bids) :
    Calls Try.prog 18 [.agg (x.cells a cap).toArray].toArray w0 (Ret (.tuple #[.agg (winF x).1.cells.toArray, .bool (winF x).2]) w0) := by
  refine enter [.cell 2 26, .tmp 3] Try.func18 rfl Try.ntmps18 rfl rfl ?_
  have H := St.start w0
  rcases Bool.eq_false_or_eq_true x.sealed with hse | hse
  · have e : mayF x = true → winF x = swinF x := fun h => by simp [winF, h, hse]
    repeat' (first
        | ((with_reducible apply OW.p sg); exact rfl; exact rfl; exact rfl; exact rfl)
        | ((with_reducible apply QW.p sg); exact rfl; exact rfl; exact rfl; exact rfl)
        | ((with_reducible apply OW.go); exact rfl)
        | ((with_reducible apply QW.go); exact rfl)
        | ((with_reducible apply OX.pure sg); exact rfl; exact rfl; exact rfl)
        | ((with_reducible apply QX.pure sg); exact rfl; exact rfl; exact rfl)
        | ((with_reducible apply OX.val); exact rfl; exact rfl; exact Yq.loadS sg rfl rfl H.mem (by first | exact List.Mem.head _ | exact List.Mem.tail _ (List.Mem.head _) | exact List.Mem.tail _ (List.Mem.tail _ (List.Mem.head _)) | exact List.Mem.tail _ (List.Mem.tail _ (List.Mem.tail _ (List.Mem.head _))) | exact List.Mem.tail _ (List.Mem.tail _ (List.Mem.tail _ (List.Mem.tail _ (List.Mem.head _)))) | (repeat (first | exact List.Mem.head _ | refine List.Mem.tail _ ?_))) rfl rfl)
        | ((with_reducible apply QX.val); exact rfl; exact rfl; exact Yq.loadS sg rfl rfl H.mem (by first | exact List.Mem.head _ | exact List.Mem.tail _ (List.Mem.head _) | exact List.Mem.tail _ (List.Mem.tail _ (List.Mem.head _)) | exact List.Mem.tail _ (List.Mem.tail _ (List.Mem.tail _ (List.Mem.head _))) | exact List.Mem.tail _ (List.Mem.tail _ (List.Mem.tail _ (List.Mem.tail _ (List.Mem.head _)))) | (repeat (first | exact List.Mem.head _ | refine List.Mem.tail _ ?_))) rfl rfl)
        | (refine OX.box H rfl rfl rfl rfl rfl ?_; intro b w H _)
        | (refine OX.alloc sg H rfl rfl rfl rfl rfl ?_; intro b w H _)
        | ((with_reducible apply OX.store sg H); exact rfl; exact rfl; exact rfl; exact rfl; exact rfl; exact rfl; (repeat (first | exact Up.here | apply Up.there)); exact rfl; exact rfl; exact rfl; exact rfl; intro w H)
        | ((with_reducible apply RW.nil); exact rfl)
        | ((with_reducible apply CW.regionR mixed); intro w hcl; replace H := H.ext hcl; clear hcl; (with_reducible apply RW.quiet 6); exact rfl; decide +kernel; simp only [List.take_succ_cons, List.take_zero, List.drop_zero])
        | ((with_reducible apply OX.call); exact rfl; exact rfl; exact En.fn ent17 rfl rfl; exact c_May x _ (H.memF hF) hs; intro w hcl; replace H := H.ext hcl; clear hcl)
        | ((with_reducible apply QX.call); exact rfl; exact rfl; exact En.fn ent17 rfl rfl; exact (fun _ hcl => c_May x _ ((H.ext hcl).memF hF) hs))
        | ((with_reducible apply OX.call); exact rfl; exact rfl; exact En.fn ent46 rfl rfl; exact c_ofS x a cap _ hse; intro w hcl; replace H := H.ext hcl; clear hcl)
        | ((with_reducible apply QX.call); exact rfl; exact rfl; exact En.fn ent46 rfl rfl; exact (fun _ hcl => c_ofS x a cap _ hse))
        | ((with_reducible apply OX.call); exact rfl; exact rfl; exact En.inv ent88 rfl rfl (m_swins) rfl; exact c_swins x _ (H.memF hF) hs; intro w hcl; replace H := H.ext hcl; clear hcl)
        | ((with_reducible apply QX.call); exact rfl; exact rfl; exact En.inv ent88 rfl rfl (m_swins) rfl; exact (fun _ hcl => c_swins x _ ((H.ext hcl).memF hF) hs))
        | ((with_reducible apply OW.gY); exact rfl; exact rfl; exact rfl)
        | ((with_reducible apply OW.gN); exact rfl; exact rfl; exact rfl; exact rfl; exact rfl)
        | ((with_reducible apply QW.gY); exact rfl; exact rfl; exact rfl)
        | ((with_reducible apply QW.gN); exact rfl; exact rfl; exact rfl; exact rfl; exact rfl)
        | ((with_reducible apply OW.gS); exact rfl; exact rfl; exact rfl; all_goals intro h)
        | ((with_reducible apply QW.gS); exact rfl; exact rfl; exact rfl; all_goals intro h)
        | with_reducible apply OW.app
        | with_reducible apply OW.app0
        | with_reducible apply QW.app
        | with_reducible apply QW.app0
        | with_reducible apply OW.nil
        | ((with_reducible apply QW.nil); intro w hcl; replace H := H.ext hcl; clear hcl)
        | ((with_reducible apply RW.one); exact rfl; decide +kernel)
        | with_reducible apply thn_n
        | with_reducible apply CW.seq
        | with_reducible apply CW.region
        | ((with_reducible apply CW.regionD mixed); decide +kernel)
        | with_reducible apply CW.block
        | with_reducible apply CW.ret
        | with_reducible apply CW.exit
        | with_reducible apply CW.skip
        | with_reducible apply thn_r
        | with_reducible apply thn_e
        | with_reducible apply blk_n
        | with_reducible apply blk_r
        | ((with_reducible apply blk_e1); exact rfl)
        | ((with_reducible apply blk_e0); exact rfl)
        | ((with_reducible apply CW.condT); exact rfl)
        | ((with_reducible apply CW.condF); exact rfl)
        | ((with_reducible apply CW.cond); exact rfl; all_goals intro h))
    · refine retV (vs := [_, _]) ⟨rdvC sg rfl H.mem (List.Mem.head _) rfl rfl, rdvT rfl, trivial⟩ H.cl ?_
      have e : winF x = (Bid.zero, false) := by simp only [Bool.not_eq_true'] at h; simp [winF, h]
      rw [e]; rfl
    · rw [e (by simpa using h)]
      exact retVn (vs := [_, _]) ⟨rdvC sg rfl H.mem (List.Mem.head _) rfl rfl, rdvT rfl, trivial⟩ H.cl rfl
  · have e : mayF x = true → winF x = ewinF x := fun h => by simp [winF, h, hse]
    repeat' (first
        | ((with_reducible apply OW.p sg); exact rfl; exact rfl; exact rfl; exact rfl)
        | ((with_reducible apply QW.p sg); exact rfl; exact rfl; exact rfl; exact rfl)
        | ((with_reducible apply OW.go); exact rfl)
        | ((with_reducible apply QW.go); exact rfl)
        | ((with_reducible apply OX.pure sg); exact rfl; exact rfl; exact rfl)
        | ((with_reducible apply QX.pure sg); exact rfl; exact rfl; exact rfl)
        | ((with_reducible apply OX.val); exact rfl; exact rfl; exact Yq.loadS sg rfl rfl H.mem (by first | exact List.Mem.head _ | exact List.Mem.tail _ (List.Mem.head _) | exact List.Mem.tail _ (List.Mem.tail _ (List.Mem.head _)) | exact List.Mem.tail _ (List.Mem.tail _ (List.Mem.tail _ (List.Mem.head _))) | exact List.Mem.tail _ (List.Mem.tail _ (List.Mem.tail _ (List.Mem.tail _ (List.Mem.head _)))) | (repeat (first | exact List.Mem.head _ | refine List.Mem.tail _ ?_))) rfl rfl)
        | ((with_reducible apply QX.val); exact rfl; exact rfl; exact Yq.loadS sg rfl rfl H.mem (by first | exact List.Mem.head _ | exact List.Mem.tail _ (List.Mem.head _) | exact List.Mem.tail _ (List.Mem.tail _ (List.Mem.head _)) | exact List.Mem.tail _ (List.Mem.tail _ (List.Mem.tail _ (List.Mem.head _))) | exact List.Mem.tail _ (List.Mem.tail _ (List.Mem.tail _ (List.Mem.tail _ (List.Mem.head _)))) | (repeat (first | exact List.Mem.head _ | refine List.Mem.tail _ ?_))) rfl rfl)
        | (refine OX.box H rfl rfl rfl rfl rfl ?_; intro b w H _)
        | (refine OX.alloc sg H rfl rfl rfl rfl rfl ?_; intro b w H _)
        | ((with_reducible apply OX.store sg H); exact rfl; exact rfl; exact rfl; exact rfl; exact rfl; exact rfl; (repeat (first | exact Up.here | apply Up.there)); exact rfl; exact rfl; exact rfl; exact rfl; intro w H)
        | ((with_reducible apply RW.nil); exact rfl)
        | ((with_reducible apply CW.regionR mixed); intro w hcl; replace H := H.ext hcl; clear hcl; (with_reducible apply RW.quiet 6); exact rfl; decide +kernel; simp only [List.take_succ_cons, List.take_zero, List.drop_zero])
        | ((with_reducible apply OX.call); exact rfl; exact rfl; exact En.fn ent17 rfl rfl; exact c_May x _ (H.memF hF) hs; intro w hcl; replace H := H.ext hcl; clear hcl)
        | ((with_reducible apply QX.call); exact rfl; exact rfl; exact En.fn ent17 rfl rfl; exact (fun _ hcl => c_May x _ ((H.ext hcl).memF hF) hs))
        | ((with_reducible apply OX.call); exact rfl; exact rfl; exact En.fn ent46 rfl rfl; exact c_ofE x a cap _ hse; intro w hcl; replace H := H.ext hcl; clear hcl)
        | ((with_reducible apply QX.call); exact rfl; exact rfl; exact En.fn ent46 rfl rfl; exact (fun _ hcl => c_ofE x a cap _ hse))
        | ((with_reducible apply OX.call); exact rfl; exact rfl; exact En.inv ent93 rfl rfl (m_ewins) rfl; exact c_ewins x _ (H.memF hF) hs; intro w hcl; replace H := H.ext hcl; clear hcl)
        | ((with_reducible apply QX.call); exact rfl; exact rfl; exact En.inv ent93 rfl rfl (m_ewins) rfl; exact (fun _ hcl => c_ewins x _ ((H.ext hcl).memF hF) hs))
        | ((with_reducible apply OW.gY); exact rfl; exact rfl; exact rfl)
        | ((with_reducible apply OW.gN); exact rfl; exact rfl; exact rfl; exact rfl; exact rfl)
        | ((with_reducible apply QW.gY); exact rfl; exact rfl; exact rfl)
        | ((with_reducible apply QW.gN); exact rfl; exact rfl; exact rfl; exact rfl; exact rfl)
        | ((with_reducible apply OW.gS); exact rfl; exact rfl; exact rfl; all_goals intro h)
        | ((with_reducible apply QW.gS); exact rfl; exact rfl; exact rfl; all_goals intro h)
        | with_reducible apply OW.app
        | with_reducible apply OW.app0
        | with_reducible apply QW.app
        | with_reducible apply QW.app0
        | with_reducible apply OW.nil
        | ((with_reducible apply QW.nil); intro w hcl; replace H := H.ext hcl; clear hcl)
        | ((with_reducible apply RW.one); exact rfl; decide +kernel)
        | with_reducible apply thn_n
        | with_reducible apply CW.seq
        | with_reducible apply CW.region
        | ((with_reducible apply CW.regionD mixed); decide +kernel)
        | with_reducible apply CW.block
        | with_reducible apply CW.ret
        | with_reducible apply CW.exit
        | with_reducible apply CW.skip
        | with_reducible apply thn_r
        | with_reducible apply thn_e
        | with_reducible apply blk_n
        | with_reducible apply blk_r
        | ((with_reducible apply blk_e1); exact rfl)
        | ((with_reducible apply blk_e0); exact rfl)
        | ((with_reducible apply CW.condT); exact rfl)
        | ((with_reducible apply CW.condF); exact rfl)
        | ((with_reducible apply CW.cond); exact rfl; all_goals intro h))
    · refine retV (vs := [_, _]) ⟨rdvC sg rfl H.mem (List.Mem.head _) rfl rfl, rdvT rfl, trivial⟩ H.cl ?_
      have e : winF x = (Bid.zero, false) := by simp only [Bool.not_eq_true'] at h; simp [winF, h]
      rw [e]; rfl
    · rw [e (by simpa using h)]
      exact retVn (vs := [_, _]) ⟨rdvC sg rfl H.mem (List.Mem.head _) rfl rfl, rdvT rfl, trivial⟩ H.cl rfl

/-! ### The least bid -/
theorem within_bd {n m : Int} (h : within n m = true) : 1 ≤ n ∧ n ≤ m := by
  simp only [within, Bool.and_eq_true, decide_eq_true_eq] at h; omega
theorem bids_bd {x : Auc} (h : bidsOk x = true) (j : Nat) (hj : j < x.bids.length) : badBid x j = false := by
  unfold bidsOk at h
  rcases idx_cases (badBid x) x.bids.length with ⟨k, h1, _, _, h2⟩ | ⟨h1, _⟩
  · rw [h2] at h; simp at h; omega
  · exact h1 j hj
theorem amount_bd {x : Auc} (h : mayF x = true) (j : Nat) (hj : j < x.bids.length) : 1 ≤ (x.bids.getD j default).amount ∧ (x.bids.getD j default).amount ≤ 1125899906842624 := by
  simp only [mayF, Bool.and_eq_true] at h
  have := bids_bd h.2 j hj
  simp only [badBid, Bool.or_eq_false_iff, Bool.not_eq_false'] at this
  exact within_bd this.1.2
theorem step_bd {x : Auc} (h : mayF x = true) (he : x.sealed = false) : 1 ≤ x.step ∧ x.step ≤ 1125899906842624 := by
  simp only [mayF, Bool.and_eq_true, mannerOk, he, emayF, Bool.false_eq_true, if_false] at h
  exact within_bd h.1.2.1
def eleastF (x : Auc) : Int := if (x.bids.length : Int) == 0 then x.reserve else (addF (x.bids.getD 0 default).amount x.step).1
theorem c_eleast {a : Option Addr} {cap : Nat} (x : Auc) {F : Frag} (w0 : World) (hF : Mem w0 F) (hs : Bids F a cap x.bids) (hm : mayF x = true) (he : x.sealed = false) :
    Calls Try.prog 90 [.agg #[], .agg (x.cells a cap).toArray].toArray w0 (Ret (.int .i64 (eleastF x)) w0) := by
  obtain ⟨hn, hc, b0, off, cs, T, fr, hs⟩ := hs
  have hst := step_bd hm he
  refine enter [.tmp 4] Try.func90 rfl Try.ntmps90 rfl rfl ?_
  have H := St.start w0
  repeat' (first
      | ((with_reducible apply OW.p sg); exact rfl; exact rfl; exact rfl; exact rfl)
      | ((with_reducible apply QW.p sg); exact rfl; exact rfl; exact rfl; exact rfl)
      | ((with_reducible apply OW.go); exact rfl)
      | ((with_reducible apply QW.go); exact rfl)
      | ((with_reducible apply OX.pure sg); exact rfl; exact rfl; exact rfl)
      | ((with_reducible apply QX.pure sg); exact rfl; exact rfl; exact rfl)
      | ((with_reducible apply OX.val); exact rfl; exact rfl; exact Yq.loadS sg rfl rfl H.mem (by first | exact List.Mem.head _ | exact List.Mem.tail _ (List.Mem.head _) | exact List.Mem.tail _ (List.Mem.tail _ (List.Mem.head _)) | exact List.Mem.tail _ (List.Mem.tail _ (List.Mem.tail _ (List.Mem.head _))) | exact List.Mem.tail _ (List.Mem.tail _ (List.Mem.tail _ (List.Mem.tail _ (List.Mem.head _)))) | (repeat (first | exact List.Mem.head _ | refine List.Mem.tail _ ?_))) rfl rfl)
      | ((with_reducible apply QX.val); exact rfl; exact rfl; exact Yq.loadS sg rfl rfl H.mem (by first | exact List.Mem.head _ | exact List.Mem.tail _ (List.Mem.head _) | exact List.Mem.tail _ (List.Mem.tail _ (List.Mem.head _)) | exact List.Mem.tail _ (List.Mem.tail _ (List.Mem.tail _ (List.Mem.head _))) | exact List.Mem.tail _ (List.Mem.tail _ (List.Mem.tail _ (List.Mem.tail _ (List.Mem.head _)))) | (repeat (first | exact List.Mem.head _ | refine List.Mem.tail _ ?_))) rfl rfl)
      | (refine OX.box H rfl rfl rfl rfl rfl ?_; intro b w H _)
      | (refine OX.alloc sg H rfl rfl rfl rfl rfl ?_; intro b w H _)
      | ((with_reducible apply OX.store sg H); exact rfl; exact rfl; exact rfl; exact rfl; exact rfl; exact rfl; (repeat (first | exact Up.here | apply Up.there)); exact rfl; exact rfl; exact rfl; exact rfl; intro w H)
      | ((with_reducible apply RW.nil); exact rfl)
      | ((with_reducible apply OW.gY); exact rfl; exact rfl; exact rfl)
      | ((with_reducible apply OW.gN); exact rfl; exact rfl; exact rfl; exact rfl; exact rfl)
      | ((with_reducible apply QW.gY); exact rfl; exact rfl; exact rfl)
      | ((with_reducible apply QW.gN); exact rfl; exact rfl; exact rfl; exact rfl; exact rfl)
      | ((with_reducible apply OW.gS); exact rfl; exact rfl; exact rfl; all_goals intro h)
      | ((with_reducible apply QW.gS); exact rfl; exact rfl; exact rfl; all_goals intro h)
      | with_reducible apply OW.app
      | with_reducible apply OW.app0
      | with_reducible apply QW.app
      | with_reducible apply QW.app0
      | with_reducible apply OW.nil
      | ((with_reducible apply QW.nil); intro w hcl; replace H := H.ext hcl; clear hcl)
      | ((with_reducible apply RW.one); exact rfl; decide +kernel)
      | with_reducible apply thn_n
      | with_reducible apply CW.seq
      | with_reducible apply CW.region
      | ((with_reducible apply CW.regionD mixed); decide +kernel)
      | with_reducible apply CW.block
      | with_reducible apply CW.ret
      | with_reducible apply CW.exit
      | with_reducible apply CW.skip
      | with_reducible apply thn_r
      | with_reducible apply thn_e
      | with_reducible apply blk_n
      | with_reducible apply blk_r
      | ((with_reducible apply blk_e1); exact rfl)
      | ((with_reducible apply blk_e0); exact rfl)
      | ((with_reducible apply CW.condT); exact rfl)
      | ((with_reducible apply CW.condF); exact rfl))
  refine CW.cond rfl (fun h => ?_) (fun h => ?_)
  · repeat' (first
      | ((with_reducible apply OW.p sg); exact rfl; exact rfl; exact rfl; exact rfl)
      | ((with_reducible apply QW.p sg); exact rfl; exact rfl; exact rfl; exact rfl)
      | ((with_reducible apply OW.go); exact rfl)
      | ((with_reducible apply QW.go); exact rfl)
      | ((with_reducible apply OX.pure sg); exact rfl; exact rfl; exact rfl)
      | ((with_reducible apply QX.pure sg); exact rfl; exact rfl; exact rfl)
      | ((with_reducible apply OX.val); exact rfl; exact rfl; exact Yq.loadS sg rfl rfl H.mem (by first | exact List.Mem.head _ | exact List.Mem.tail _ (List.Mem.head _) | exact List.Mem.tail _ (List.Mem.tail _ (List.Mem.head _)) | exact List.Mem.tail _ (List.Mem.tail _ (List.Mem.tail _ (List.Mem.head _))) | exact List.Mem.tail _ (List.Mem.tail _ (List.Mem.tail _ (List.Mem.tail _ (List.Mem.head _)))) | (repeat (first | exact List.Mem.head _ | refine List.Mem.tail _ ?_))) rfl rfl)
      | ((with_reducible apply QX.val); exact rfl; exact rfl; exact Yq.loadS sg rfl rfl H.mem (by first | exact List.Mem.head _ | exact List.Mem.tail _ (List.Mem.head _) | exact List.Mem.tail _ (List.Mem.tail _ (List.Mem.head _)) | exact List.Mem.tail _ (List.Mem.tail _ (List.Mem.tail _ (List.Mem.head _))) | exact List.Mem.tail _ (List.Mem.tail _ (List.Mem.tail _ (List.Mem.tail _ (List.Mem.head _)))) | (repeat (first | exact List.Mem.head _ | refine List.Mem.tail _ ?_))) rfl rfl)
      | (refine OX.box H rfl rfl rfl rfl rfl ?_; intro b w H _)
      | (refine OX.alloc sg H rfl rfl rfl rfl rfl ?_; intro b w H _)
      | ((with_reducible apply OX.store sg H); exact rfl; exact rfl; exact rfl; exact rfl; exact rfl; exact rfl; (repeat (first | exact Up.here | apply Up.there)); exact rfl; exact rfl; exact rfl; exact rfl; intro w H)
      | ((with_reducible apply RW.nil); exact rfl)
      | ((with_reducible apply OW.gY); exact rfl; exact rfl; exact rfl)
      | ((with_reducible apply OW.gN); exact rfl; exact rfl; exact rfl; exact rfl; exact rfl)
      | ((with_reducible apply QW.gY); exact rfl; exact rfl; exact rfl)
      | ((with_reducible apply QW.gN); exact rfl; exact rfl; exact rfl; exact rfl; exact rfl)
      | ((with_reducible apply OW.gS); exact rfl; exact rfl; exact rfl; all_goals intro h)
      | ((with_reducible apply QW.gS); exact rfl; exact rfl; exact rfl; all_goals intro h)
      | with_reducible apply OW.app
      | with_reducible apply OW.app0
      | with_reducible apply QW.app
      | with_reducible apply QW.app0
      | with_reducible apply OW.nil
      | ((with_reducible apply QW.nil); intro w hcl; replace H := H.ext hcl; clear hcl)
      | ((with_reducible apply RW.one); exact rfl; decide +kernel)
      | with_reducible apply thn_n
      | with_reducible apply CW.seq
      | with_reducible apply CW.region
      | ((with_reducible apply CW.regionD mixed); decide +kernel)
      | with_reducible apply CW.block
      | with_reducible apply CW.ret
      | with_reducible apply CW.exit
      | with_reducible apply CW.skip
      | with_reducible apply thn_r
      | with_reducible apply thn_e
      | with_reducible apply blk_n
      | with_reducible apply blk_r
      | ((with_reducible apply blk_e1); exact rfl)
      | ((with_reducible apply blk_e0); exact rfl)
      | ((with_reducible apply CW.condT); exact rfl)
      | ((with_reducible apply CW.condF); exact rfl))
    exact ret1 rfl H.cl (by simp only [eleastF, h, if_true])
  · have hpos : 0 < x.bids.length := by have := neI h; omega
    have hb := amount_bd hm 0 hpos
    repeat' (first
        | ((with_reducible apply OW.p sg); exact rfl; exact rfl; exact rfl; exact rfl)
        | ((with_reducible apply QW.p sg); exact rfl; exact rfl; exact rfl; exact rfl)
        | ((with_reducible apply OW.go); exact rfl)
        | ((with_reducible apply QW.go); exact rfl)
        | ((with_reducible apply OX.pure sg); exact rfl; exact rfl; exact rfl)
        | ((with_reducible apply QX.pure sg); exact rfl; exact rfl; exact rfl)
        | ((with_reducible apply OX.val); exact rfl; exact rfl; exact Yq.loadS sg rfl rfl H.mem (by first | exact List.Mem.head _ | exact List.Mem.tail _ (List.Mem.head _) | exact List.Mem.tail _ (List.Mem.tail _ (List.Mem.head _)) | exact List.Mem.tail _ (List.Mem.tail _ (List.Mem.tail _ (List.Mem.head _))) | exact List.Mem.tail _ (List.Mem.tail _ (List.Mem.tail _ (List.Mem.tail _ (List.Mem.head _)))) | (repeat (first | exact List.Mem.head _ | refine List.Mem.tail _ ?_))) rfl rfl)
        | ((with_reducible apply QX.val); exact rfl; exact rfl; exact Yq.loadS sg rfl rfl H.mem (by first | exact List.Mem.head _ | exact List.Mem.tail _ (List.Mem.head _) | exact List.Mem.tail _ (List.Mem.tail _ (List.Mem.head _)) | exact List.Mem.tail _ (List.Mem.tail _ (List.Mem.tail _ (List.Mem.head _))) | exact List.Mem.tail _ (List.Mem.tail _ (List.Mem.tail _ (List.Mem.tail _ (List.Mem.head _)))) | (repeat (first | exact List.Mem.head _ | refine List.Mem.tail _ ?_))) rfl rfl)
        | (refine OX.box H rfl rfl rfl rfl rfl ?_; intro b w H _)
        | (refine OX.alloc sg H rfl rfl rfl rfl rfl ?_; intro b w H _)
        | ((with_reducible apply OX.store sg H); exact rfl; exact rfl; exact rfl; exact rfl; exact rfl; exact rfl; (repeat (first | exact Up.here | apply Up.there)); exact rfl; exact rfl; exact rfl; exact rfl; intro w H)
        | ((with_reducible apply RW.nil); exact rfl)
        | ((with_reducible apply OX.val); exact rfl; exact rfl; exact Yq.ixB sg hs rfl rfl rfl rfl rfl rfl rfl (by first | with_reducible exact Int.toNat_natCast _ | exact toNat_pred (by omega) (by omega) | with_reducible exact toNat_0 | exact toNat_self _) (by omega) (by omega))
        | ((with_reducible apply QX.val); exact rfl; exact rfl; exact Yq.ixB sg hs rfl rfl rfl rfl rfl rfl rfl (by first | with_reducible exact Int.toNat_natCast _ | exact toNat_pred (by omega) (by omega) | with_reducible exact toNat_0 | exact toNat_self _) (by omega) (by omega))
        | ((with_reducible apply OX.val); exact rfl; exact rfl; exact Yq.loadBf sg hs (H.memF hF) rfl rfl rfl rfl (by omega) rfl rfl)
        | ((with_reducible apply QX.val); exact rfl; exact rfl; exact Yq.loadBf sg hs (H.memF hF) rfl rfl rfl rfl (by omega) rfl rfl)
        | ((with_reducible apply OX.call); exact rfl; exact rfl; exact En.fn ent94 rfl rfl; exact c_Add _ _ _ (by omega) (by omega) (by omega) (by omega); intro w hcl; replace H := H.ext hcl; clear hcl)
        | ((with_reducible apply QX.call); exact rfl; exact rfl; exact En.fn ent94 rfl rfl; exact (fun _ hcl => c_Add _ _ _ (by omega) (by omega) (by omega) (by omega)))
        | ((with_reducible apply OW.gY); exact rfl; exact rfl; exact rfl)
        | ((with_reducible apply OW.gN); exact rfl; exact rfl; exact rfl; exact rfl; exact rfl)
        | ((with_reducible apply QW.gY); exact rfl; exact rfl; exact rfl)
        | ((with_reducible apply QW.gN); exact rfl; exact rfl; exact rfl; exact rfl; exact rfl)
        | ((with_reducible apply OW.gS); exact rfl; exact rfl; exact rfl; all_goals intro h)
        | ((with_reducible apply QW.gS); exact rfl; exact rfl; exact rfl; all_goals intro h)
        | with_reducible apply OW.app
        | with_reducible apply OW.app0
        | with_reducible apply QW.app
        | with_reducible apply QW.app0
        | with_reducible apply OW.nil
        | ((with_reducible apply QW.nil); intro w hcl; replace H := H.ext hcl; clear hcl)
        | ((with_reducible apply RW.one); exact rfl; decide +kernel)
        | with_reducible apply thn_n
        | with_reducible apply CW.seq
        | with_reducible apply CW.region
        | ((with_reducible apply CW.regionD mixed); decide +kernel)
        | with_reducible apply CW.block
        | with_reducible apply CW.ret
        | with_reducible apply CW.exit
        | with_reducible apply CW.skip
        | with_reducible apply thn_r
        | with_reducible apply thn_e
        | with_reducible apply blk_n
        | with_reducible apply blk_r
        | ((with_reducible apply blk_e1); exact rfl)
        | ((with_reducible apply blk_e0); exact rfl)
        | ((with_reducible apply CW.condT); exact rfl)
        | ((with_reducible apply CW.condF); exact rfl))
    exact ret1 rfl H.cl (by simp only [eleastF, h]; rfl)
theorem c_sleast {a : Option Addr} {cap : Nat} (x : Auc) (w0 : World) :
    Calls Try.prog 85 [.agg #[], .agg (x.cells a cap).toArray].toArray w0 (Ret (.int .i64 1) w0) := by
  refine enter [.tmp 4] Try.func85 rfl Try.ntmps85 rfl rfl ?_
  have H := St.start w0
  repeat' (first
      | ((with_reducible apply OW.p sg); exact rfl; exact rfl; exact rfl; exact rfl)
      | ((with_reducible apply QW.p sg); exact rfl; exact rfl; exact rfl; exact rfl)
      | ((with_reducible apply OW.go); exact rfl)
      | ((with_reducible apply QW.go); exact rfl)
      | ((with_reducible apply OX.pure sg); exact rfl; exact rfl; exact rfl)
      | ((with_reducible apply QX.pure sg); exact rfl; exact rfl; exact rfl)
      | ((with_reducible apply OX.val); exact rfl; exact rfl; exact Yq.loadS sg rfl rfl H.mem (by first | exact List.Mem.head _ | exact List.Mem.tail _ (List.Mem.head _) | exact List.Mem.tail _ (List.Mem.tail _ (List.Mem.head _)) | exact List.Mem.tail _ (List.Mem.tail _ (List.Mem.tail _ (List.Mem.head _))) | exact List.Mem.tail _ (List.Mem.tail _ (List.Mem.tail _ (List.Mem.tail _ (List.Mem.head _)))) | (repeat (first | exact List.Mem.head _ | refine List.Mem.tail _ ?_))) rfl rfl)
      | ((with_reducible apply QX.val); exact rfl; exact rfl; exact Yq.loadS sg rfl rfl H.mem (by first | exact List.Mem.head _ | exact List.Mem.tail _ (List.Mem.head _) | exact List.Mem.tail _ (List.Mem.tail _ (List.Mem.head _)) | exact List.Mem.tail _ (List.Mem.tail _ (List.Mem.tail _ (List.Mem.head _))) | exact List.Mem.tail _ (List.Mem.tail _ (List.Mem.tail _ (List.Mem.tail _ (List.Mem.head _)))) | (repeat (first | exact List.Mem.head _ | refine List.Mem.tail _ ?_))) rfl rfl)
      | (refine OX.box H rfl rfl rfl rfl rfl ?_; intro b w H _)
      | (refine OX.alloc sg H rfl rfl rfl rfl rfl ?_; intro b w H _)
      | ((with_reducible apply OX.store sg H); exact rfl; exact rfl; exact rfl; exact rfl; exact rfl; exact rfl; (repeat (first | exact Up.here | apply Up.there)); exact rfl; exact rfl; exact rfl; exact rfl; intro w H)
      | ((with_reducible apply RW.nil); exact rfl)
      | ((with_reducible apply OW.gY); exact rfl; exact rfl; exact rfl)
      | ((with_reducible apply OW.gN); exact rfl; exact rfl; exact rfl; exact rfl; exact rfl)
      | ((with_reducible apply QW.gY); exact rfl; exact rfl; exact rfl)
      | ((with_reducible apply QW.gN); exact rfl; exact rfl; exact rfl; exact rfl; exact rfl)
      | ((with_reducible apply OW.gS); exact rfl; exact rfl; exact rfl; all_goals intro h)
      | ((with_reducible apply QW.gS); exact rfl; exact rfl; exact rfl; all_goals intro h)
      | with_reducible apply OW.app
      | with_reducible apply OW.app0
      | with_reducible apply QW.app
      | with_reducible apply QW.app0
      | with_reducible apply OW.nil
      | ((with_reducible apply QW.nil); intro w hcl; replace H := H.ext hcl; clear hcl)
      | ((with_reducible apply RW.one); exact rfl; decide +kernel)
      | with_reducible apply thn_n
      | with_reducible apply CW.seq
      | with_reducible apply CW.region
      | ((with_reducible apply CW.regionD mixed); decide +kernel)
      | with_reducible apply CW.block
      | with_reducible apply CW.ret
      | with_reducible apply CW.exit
      | with_reducible apply CW.skip
      | with_reducible apply thn_r
      | with_reducible apply thn_e
      | with_reducible apply blk_n
      | with_reducible apply blk_r
      | ((with_reducible apply blk_e1); exact rfl)
      | ((with_reducible apply blk_e0); exact rfl)
      | ((with_reducible apply CW.condT); exact rfl)
      | ((with_reducible apply CW.condF); exact rfl)
      | ((with_reducible apply CW.cond); exact rfl; all_goals intro h))
  exact ret1 rfl H.cl rfl
def leastF (x : Auc) : Int := if mayF x then (if x.sealed then 1 else eleastF x) else 0
theorem c_Least {a : Option Addr} {cap : Nat} (x : Auc) {F : Frag} (w0 : World) (hF : Mem w0 F) (hs : Bids F a cap x.bids) :
    Calls Try.prog 24 [.agg (x.cells a cap).toArray].toArray w0 (Ret (.int .i64 (leastF x)) w0) := by
  refine enter [.tmp 2] Try.func24 rfl Try.ntmps24 rfl rfl ?_
  have H := St.start w0
  repeat' (first
      | ((with_reducible apply OW.p sg); exact rfl; exact rfl; exact rfl; exact rfl)
      | ((with_reducible apply QW.p sg); exact rfl; exact rfl; exact rfl; exact rfl)
      | ((with_reducible apply OW.go); exact rfl)
      | ((with_reducible apply QW.go); exact rfl)
      | ((with_reducible apply OX.pure sg); exact rfl; exact rfl; exact rfl)
      | ((with_reducible apply QX.pure sg); exact rfl; exact rfl; exact rfl)
      | ((with_reducible apply OX.val); exact rfl; exact rfl; exact Yq.loadS sg rfl rfl H.mem (by first | exact List.Mem.head _ | exact List.Mem.tail _ (List.Mem.head _) | exact List.Mem.tail _ (List.Mem.tail _ (List.Mem.head _)) | exact List.Mem.tail _ (List.Mem.tail _ (List.Mem.tail _ (List.Mem.head _))) | exact List.Mem.tail _ (List.Mem.tail _ (List.Mem.tail _ (List.Mem.tail _ (List.Mem.head _)))) | (repeat (first | exact List.Mem.head _ | refine List.Mem.tail _ ?_))) rfl rfl)
      | ((with_reducible apply QX.val); exact rfl; exact rfl; exact Yq.loadS sg rfl rfl H.mem (by first | exact List.Mem.head _ | exact List.Mem.tail _ (List.Mem.head _) | exact List.Mem.tail _ (List.Mem.tail _ (List.Mem.head _)) | exact List.Mem.tail _ (List.Mem.tail _ (List.Mem.tail _ (List.Mem.head _))) | exact List.Mem.tail _ (List.Mem.tail _ (List.Mem.tail _ (List.Mem.tail _ (List.Mem.head _)))) | (repeat (first | exact List.Mem.head _ | refine List.Mem.tail _ ?_))) rfl rfl)
      | (refine OX.box H rfl rfl rfl rfl rfl ?_; intro b w H _)
      | (refine OX.alloc sg H rfl rfl rfl rfl rfl ?_; intro b w H _)
      | ((with_reducible apply OX.store sg H); exact rfl; exact rfl; exact rfl; exact rfl; exact rfl; exact rfl; (repeat (first | exact Up.here | apply Up.there)); exact rfl; exact rfl; exact rfl; exact rfl; intro w H)
      | ((with_reducible apply RW.nil); exact rfl)
      | ((with_reducible apply OX.call); exact rfl; exact rfl; exact En.fn ent17 rfl rfl; exact c_May x _ (H.memF hF) hs; intro w hcl; replace H := H.ext hcl; clear hcl)
      | ((with_reducible apply QX.call); exact rfl; exact rfl; exact En.fn ent17 rfl rfl; exact (fun _ hcl => c_May x _ ((H.ext hcl).memF hF) hs))
      | ((with_reducible apply OW.gY); exact rfl; exact rfl; exact rfl)
      | ((with_reducible apply OW.gN); exact rfl; exact rfl; exact rfl; exact rfl; exact rfl)
      | ((with_reducible apply QW.gY); exact rfl; exact rfl; exact rfl)
      | ((with_reducible apply QW.gN); exact rfl; exact rfl; exact rfl; exact rfl; exact rfl)
      | ((with_reducible apply OW.gS); exact rfl; exact rfl; exact rfl; all_goals intro h)
      | ((with_reducible apply QW.gS); exact rfl; exact rfl; exact rfl; all_goals intro h)
      | with_reducible apply OW.app
      | with_reducible apply OW.app0
      | with_reducible apply QW.app
      | with_reducible apply QW.app0
      | with_reducible apply OW.nil
      | ((with_reducible apply QW.nil); intro w hcl; replace H := H.ext hcl; clear hcl)
      | ((with_reducible apply RW.one); exact rfl; decide +kernel)
      | with_reducible apply thn_n
      | with_reducible apply CW.seq
      | with_reducible apply CW.region
      | ((with_reducible apply CW.regionD mixed); decide +kernel)
      | with_reducible apply CW.block
      | with_reducible apply CW.ret
      | with_reducible apply CW.exit
      | with_reducible apply CW.skip
      | with_reducible apply thn_r
      | with_reducible apply thn_e
      | with_reducible apply blk_n
      | with_reducible apply blk_r
      | ((with_reducible apply blk_e1); exact rfl)
      | ((with_reducible apply blk_e0); exact rfl)
      | ((with_reducible apply CW.condT); exact rfl)
      | ((with_reducible apply CW.condF); exact rfl))
  refine CW.cond rfl (fun h => ?_) (fun h => ?_)
  · repeat' (first
      | ((with_reducible apply OW.p sg); exact rfl; exact rfl; exact rfl; exact rfl)
      | ((with_reducible apply QW.p sg); exact rfl; exact rfl; exact rfl; exact rfl)
      | ((with_reducible apply OW.go); exact rfl)
      | ((with_reducible apply QW.go); exact rfl)
      | ((with_reducible apply OX.pure sg); exact rfl; exact rfl; exact rfl)
      | ((with_reducible apply QX.pure sg); exact rfl; exact rfl; exact rfl)
      | ((with_reducible apply OX.val); exact rfl; exact rfl; exact Yq.loadS sg rfl rfl H.mem (by first | exact List.Mem.head _ | exact List.Mem.tail _ (List.Mem.head _) | exact List.Mem.tail _ (List.Mem.tail _ (List.Mem.head _)) | exact List.Mem.tail _ (List.Mem.tail _ (List.Mem.tail _ (List.Mem.head _))) | exact List.Mem.tail _ (List.Mem.tail _ (List.Mem.tail _ (List.Mem.tail _ (List.Mem.head _)))) | (repeat (first | exact List.Mem.head _ | refine List.Mem.tail _ ?_))) rfl rfl)
      | ((with_reducible apply QX.val); exact rfl; exact rfl; exact Yq.loadS sg rfl rfl H.mem (by first | exact List.Mem.head _ | exact List.Mem.tail _ (List.Mem.head _) | exact List.Mem.tail _ (List.Mem.tail _ (List.Mem.head _)) | exact List.Mem.tail _ (List.Mem.tail _ (List.Mem.tail _ (List.Mem.head _))) | exact List.Mem.tail _ (List.Mem.tail _ (List.Mem.tail _ (List.Mem.tail _ (List.Mem.head _)))) | (repeat (first | exact List.Mem.head _ | refine List.Mem.tail _ ?_))) rfl rfl)
      | (refine OX.box H rfl rfl rfl rfl rfl ?_; intro b w H _)
      | (refine OX.alloc sg H rfl rfl rfl rfl rfl ?_; intro b w H _)
      | ((with_reducible apply OX.store sg H); exact rfl; exact rfl; exact rfl; exact rfl; exact rfl; exact rfl; (repeat (first | exact Up.here | apply Up.there)); exact rfl; exact rfl; exact rfl; exact rfl; intro w H)
      | ((with_reducible apply RW.nil); exact rfl)
      | ((with_reducible apply OW.gY); exact rfl; exact rfl; exact rfl)
      | ((with_reducible apply OW.gN); exact rfl; exact rfl; exact rfl; exact rfl; exact rfl)
      | ((with_reducible apply QW.gY); exact rfl; exact rfl; exact rfl)
      | ((with_reducible apply QW.gN); exact rfl; exact rfl; exact rfl; exact rfl; exact rfl)
      | ((with_reducible apply OW.gS); exact rfl; exact rfl; exact rfl; all_goals intro h)
      | ((with_reducible apply QW.gS); exact rfl; exact rfl; exact rfl; all_goals intro h)
      | with_reducible apply OW.app
      | with_reducible apply OW.app0
      | with_reducible apply QW.app
      | with_reducible apply QW.app0
      | with_reducible apply OW.nil
      | ((with_reducible apply QW.nil); intro w hcl; replace H := H.ext hcl; clear hcl)
      | ((with_reducible apply RW.one); exact rfl; decide +kernel)
      | with_reducible apply thn_n
      | with_reducible apply CW.seq
      | with_reducible apply CW.region
      | ((with_reducible apply CW.regionD mixed); decide +kernel)
      | with_reducible apply CW.block
      | with_reducible apply CW.ret
      | with_reducible apply CW.exit
      | with_reducible apply CW.skip
      | with_reducible apply thn_r
      | with_reducible apply thn_e
      | with_reducible apply blk_n
      | with_reducible apply blk_r
      | ((with_reducible apply blk_e1); exact rfl)
      | ((with_reducible apply blk_e0); exact rfl)
      | ((with_reducible apply CW.condT); exact rfl)
      | ((with_reducible apply CW.condF); exact rfl))
    exact ret1 rfl H.cl (by simp only [Bool.not_eq_true'] at h; simp [leastF, h])
  · have hm : mayF x = true := by simpa using h
    rcases Bool.eq_false_or_eq_true x.sealed with hse | hse
    · repeat' (first
        | ((with_reducible apply OW.p sg); exact rfl; exact rfl; exact rfl; exact rfl)
        | ((with_reducible apply QW.p sg); exact rfl; exact rfl; exact rfl; exact rfl)
        | ((with_reducible apply OW.go); exact rfl)
        | ((with_reducible apply QW.go); exact rfl)
        | ((with_reducible apply OX.pure sg); exact rfl; exact rfl; exact rfl)
        | ((with_reducible apply QX.pure sg); exact rfl; exact rfl; exact rfl)
        | ((with_reducible apply OX.val); exact rfl; exact rfl; exact Yq.loadS sg rfl rfl H.mem (by first | exact List.Mem.head _ | exact List.Mem.tail _ (List.Mem.head _) | exact List.Mem.tail _ (List.Mem.tail _ (List.Mem.head _)) | exact List.Mem.tail _ (List.Mem.tail _ (List.Mem.tail _ (List.Mem.head _))) | exact List.Mem.tail _ (List.Mem.tail _ (List.Mem.tail _ (List.Mem.tail _ (List.Mem.head _)))) | (repeat (first | exact List.Mem.head _ | refine List.Mem.tail _ ?_))) rfl rfl)
        | ((with_reducible apply QX.val); exact rfl; exact rfl; exact Yq.loadS sg rfl rfl H.mem (by first | exact List.Mem.head _ | exact List.Mem.tail _ (List.Mem.head _) | exact List.Mem.tail _ (List.Mem.tail _ (List.Mem.head _)) | exact List.Mem.tail _ (List.Mem.tail _ (List.Mem.tail _ (List.Mem.head _))) | exact List.Mem.tail _ (List.Mem.tail _ (List.Mem.tail _ (List.Mem.tail _ (List.Mem.head _)))) | (repeat (first | exact List.Mem.head _ | refine List.Mem.tail _ ?_))) rfl rfl)
        | (refine OX.box H rfl rfl rfl rfl rfl ?_; intro b w H _)
        | (refine OX.alloc sg H rfl rfl rfl rfl rfl ?_; intro b w H _)
        | ((with_reducible apply OX.store sg H); exact rfl; exact rfl; exact rfl; exact rfl; exact rfl; exact rfl; (repeat (first | exact Up.here | apply Up.there)); exact rfl; exact rfl; exact rfl; exact rfl; intro w H)
        | ((with_reducible apply RW.nil); exact rfl)
        | ((with_reducible apply OX.call); exact rfl; exact rfl; exact En.fn ent46 rfl rfl; exact c_ofS x a cap _ hse; intro w hcl; replace H := H.ext hcl; clear hcl)
        | ((with_reducible apply QX.call); exact rfl; exact rfl; exact En.fn ent46 rfl rfl; exact (fun _ hcl => c_ofS x a cap _ hse))
        | ((with_reducible apply OX.call); exact rfl; exact rfl; exact En.inv ent85 rfl rfl (m_sleast) rfl; exact c_sleast x _; intro w hcl; replace H := H.ext hcl; clear hcl)
        | ((with_reducible apply QX.call); exact rfl; exact rfl; exact En.inv ent85 rfl rfl (m_sleast) rfl; exact (fun _ hcl => c_sleast x _))
        | ((with_reducible apply OW.gY); exact rfl; exact rfl; exact rfl)
        | ((with_reducible apply OW.gN); exact rfl; exact rfl; exact rfl; exact rfl; exact rfl)
        | ((with_reducible apply QW.gY); exact rfl; exact rfl; exact rfl)
        | ((with_reducible apply QW.gN); exact rfl; exact rfl; exact rfl; exact rfl; exact rfl)
        | ((with_reducible apply OW.gS); exact rfl; exact rfl; exact rfl; all_goals intro h)
        | ((with_reducible apply QW.gS); exact rfl; exact rfl; exact rfl; all_goals intro h)
        | with_reducible apply OW.app
        | with_reducible apply OW.app0
        | with_reducible apply QW.app
        | with_reducible apply QW.app0
        | with_reducible apply OW.nil
        | ((with_reducible apply QW.nil); intro w hcl; replace H := H.ext hcl; clear hcl)
        | ((with_reducible apply RW.one); exact rfl; decide +kernel)
        | with_reducible apply thn_n
        | with_reducible apply CW.seq
        | with_reducible apply CW.region
        | ((with_reducible apply CW.regionD mixed); decide +kernel)
        | with_reducible apply CW.block
        | with_reducible apply CW.ret
        | with_reducible apply CW.exit
        | with_reducible apply CW.skip
        | with_reducible apply thn_r
        | with_reducible apply thn_e
        | with_reducible apply blk_n
        | with_reducible apply blk_r
        | ((with_reducible apply blk_e1); exact rfl)
        | ((with_reducible apply blk_e0); exact rfl)
        | ((with_reducible apply CW.condT); exact rfl)
        | ((with_reducible apply CW.condF); exact rfl)
        | ((with_reducible apply CW.cond); exact rfl; all_goals intro h))
      exact ret1 rfl H.cl (by simp [leastF, hm, hse])
    · repeat' (first
        | ((with_reducible apply OW.p sg); exact rfl; exact rfl; exact rfl; exact rfl)
        | ((with_reducible apply QW.p sg); exact rfl; exact rfl; exact rfl; exact rfl)
        | ((with_reducible apply OW.go); exact rfl)
        | ((with_reducible apply QW.go); exact rfl)
        | ((with_reducible apply OX.pure sg); exact rfl; exact rfl; exact rfl)
        | ((with_reducible apply QX.pure sg); exact rfl; exact rfl; exact rfl)
        | ((with_reducible apply OX.val); exact rfl; exact rfl; exact Yq.loadS sg rfl rfl H.mem (by first | exact List.Mem.head _ | exact List.Mem.tail _ (List.Mem.head _) | exact List.Mem.tail _ (List.Mem.tail _ (List.Mem.head _)) | exact List.Mem.tail _ (List.Mem.tail _ (List.Mem.tail _ (List.Mem.head _))) | exact List.Mem.tail _ (List.Mem.tail _ (List.Mem.tail _ (List.Mem.tail _ (List.Mem.head _)))) | (repeat (first | exact List.Mem.head _ | refine List.Mem.tail _ ?_))) rfl rfl)
        | ((with_reducible apply QX.val); exact rfl; exact rfl; exact Yq.loadS sg rfl rfl H.mem (by first | exact List.Mem.head _ | exact List.Mem.tail _ (List.Mem.head _) | exact List.Mem.tail _ (List.Mem.tail _ (List.Mem.head _)) | exact List.Mem.tail _ (List.Mem.tail _ (List.Mem.tail _ (List.Mem.head _))) | exact List.Mem.tail _ (List.Mem.tail _ (List.Mem.tail _ (List.Mem.tail _ (List.Mem.head _)))) | (repeat (first | exact List.Mem.head _ | refine List.Mem.tail _ ?_))) rfl rfl)
        | (refine OX.box H rfl rfl rfl rfl rfl ?_; intro b w H _)
        | (refine OX.alloc sg H rfl rfl rfl rfl rfl ?_; intro b w H _)
        | ((with_reducible apply OX.store sg H); exact rfl; exact rfl; exact rfl; exact rfl; exact rfl; exact rfl; (repeat (first | exact Up.here | apply Up.there)); exact rfl; exact rfl; exact rfl; exact rfl; intro w H)
        | ((with_reducible apply RW.nil); exact rfl)
        | ((with_reducible apply OX.call); exact rfl; exact rfl; exact En.fn ent46 rfl rfl; exact c_ofE x a cap _ hse; intro w hcl; replace H := H.ext hcl; clear hcl)
        | ((with_reducible apply QX.call); exact rfl; exact rfl; exact En.fn ent46 rfl rfl; exact (fun _ hcl => c_ofE x a cap _ hse))
        | ((with_reducible apply OX.call); exact rfl; exact rfl; exact En.inv ent90 rfl rfl (m_eleast) rfl; exact c_eleast x _ (H.memF hF) hs hm hse; intro w hcl; replace H := H.ext hcl; clear hcl)
        | ((with_reducible apply QX.call); exact rfl; exact rfl; exact En.inv ent90 rfl rfl (m_eleast) rfl; exact (fun _ hcl => c_eleast x _ ((H.ext hcl).memF hF) hs hm hse))
        | ((with_reducible apply OW.gY); exact rfl; exact rfl; exact rfl)
        | ((with_reducible apply OW.gN); exact rfl; exact rfl; exact rfl; exact rfl; exact rfl)
        | ((with_reducible apply QW.gY); exact rfl; exact rfl; exact rfl)
        | ((with_reducible apply QW.gN); exact rfl; exact rfl; exact rfl; exact rfl; exact rfl)
        | ((with_reducible apply OW.gS); exact rfl; exact rfl; exact rfl; all_goals intro h)
        | ((with_reducible apply QW.gS); exact rfl; exact rfl; exact rfl; all_goals intro h)
        | with_reducible apply OW.app
        | with_reducible apply OW.app0
        | with_reducible apply QW.app
        | with_reducible apply QW.app0
        | with_reducible apply OW.nil
        | ((with_reducible apply QW.nil); intro w hcl; replace H := H.ext hcl; clear hcl)
        | ((with_reducible apply RW.one); exact rfl; decide +kernel)
        | with_reducible apply thn_n
        | with_reducible apply CW.seq
        | with_reducible apply CW.region
        | ((with_reducible apply CW.regionD mixed); decide +kernel)
        | with_reducible apply CW.block
        | with_reducible apply CW.ret
        | with_reducible apply CW.exit
        | with_reducible apply CW.skip
        | with_reducible apply thn_r
        | with_reducible apply thn_e
        | with_reducible apply blk_n
        | with_reducible apply blk_r
        | ((with_reducible apply blk_e1); exact rfl)
        | ((with_reducible apply blk_e0); exact rfl)
        | ((with_reducible apply CW.condT); exact rfl)
        | ((with_reducible apply CW.condF); exact rfl)
        | ((with_reducible apply CW.cond); exact rfl; all_goals intro h))
      exact ret1 rfl H.cl (by simp [leastF, hm, hse])
end Go.Proofs.Ytkcoemikglbomaa
