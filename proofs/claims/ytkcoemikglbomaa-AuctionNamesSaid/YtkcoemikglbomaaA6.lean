/- The auction's layer, walked: MayAll, Due, Same, Held, own, Get, Top. -/
import Derived.Test.YtkcoemikglbomaaA5
namespace Go.Proofs.Ytkcoemikglbomaa
open Go Go.Sk Go.RowKit
/-- Auctions that are read: 'ad' tells where each one's bids lie. -/
def ael (l : List Auc) (ad : Nat → Option Addr × Nat) (j : Nat) : List Value := (l.getD j default).cells (ad j).1 (ad j).2
def Aucs (F : Frag) (a : Option Addr) (cap : Nat) (l : List Auc) (ad : Nat → Option Addr × Nat) : Prop :=
  SlA F 9 a l.length cap (ael l ad) ∧ ∀ j, j < l.length → Bids F (ad j).1 (ad j).2 (l.getD j default).bids
def lastOf (l : List Auc) : Nat → Int
  | 0 => 0
  | k + 1 => (l.getD k default).id
def badAuc (l : List Auc) (j : Nat) : Bool := decide ((l.getD j default).id ≤ lastOf l j) || !mayF (l.getD j default)
def mayAllF (l : List Auc) : Bool := decide (idx (badAuc l) l.length < 0) && decide ((l.length : Int) ≤ 32)
set_option maxHeartbeats 1000000 in
theorem c_MayAll {a : Option Addr} {cap : Nat} (l : List Auc) (ad : Nat → Option Addr × Nat) {F : Frag} (w0 : World) (hF : Mem w0 F) (hs : Aucs F a cap l ad) :
    Calls Try.prog 32 [.slice a l.length cap].toArray w0 (Ret (.bool (mayAllF l)) w0) := by
  obtain ⟨⟨hn, hc, b0, off, cs, T, fr, hs⟩, hbs⟩ := hs
  refine enter [.tmp 2] Try.func32 rfl Try.ntmps32 rfl rfl ?_
  have H := St.start w0
  repeat' (first
      | ((with_reducible apply OW.p sg); exact rfl; exact rfl; exact rfl; exact rfl)
      | ((with_reducible apply QW.p sg); exact rfl; exact rfl; exact rfl; exact rfl)
      | ((with_reducible apply OW.go); exact rfl)
      | ((with_reducible apply QW.go); exact rfl)
      | ((with_reducible apply OX.pure sg); exact rfl; exact rfl; exact rfl)
      | ((with_reducible apply QX.pure sg); exact rfl; exact rfl; exact rfl)
      | ((with_reducible apply OX.val); exact rfl; exact rfl; exact Yq.loadS sg rfl rfl H.mem (by first | exact List.Mem.head _ | exact List.Mem.tail _ (List.Mem.head _) | exact List.Mem.tail _ (List.Mem.tail _ (List.Mem.head _)) | exact List.Mem.tail _ (List.Mem.tail _ (List.Mem.tail _ (List.Mem.head _))) | exact List.Mem.tail _ (List.Mem.tail _ (List.Mem.tail _ (List.Mem.tail _ (List.Mem.head _)))) | (repeat (first | exact List.Mem.head _ | refine List.Mem.tail _ ?_))) rfl rfl)
      | ((with_reducible apply QX.val); exact rfl; exact rfl; exact Yq.loadS sg rfl rfl H.mem (by first | exact List.Mem.head _ | exact List.Mem.tail _ (List.Mem.head _) | exact List.Mem.tail _ (List.Mem.tail _ (List.Mem.head _)) | exact List.Mem.tail _ (List.Mem.tail _ (List.Mem.tail _ (List.Mem.head _))) | exact List.Mem.tail _ (List.Mem.tail _ (List.Mem.tail _ (List.Mem.tail _ (List.Mem.head _)))) | (repeat (first | exact List.Mem.head _ | refine List.Mem.tail _ ?_))) rfl rfl)
      | (refine OX.box H rfl rfl rfl rfl rfl ?_; intro b w H _)
      | (refine OX.alloc sg H rfl rfl rfl rfl rfl ?_; intro b w H _)
      | ((with_reducible apply OX.store sg H); exact rfl; exact rfl; exact rfl; exact rfl; exact rfl; exact rfl; (repeat (first | exact Up.here | apply Up.there)); exact rfl; exact rfl; exact rfl; exact rfl; intro w H)
      | ((with_reducible apply RW.nil); exact rfl)
      | ((with_reducible apply OW.gY); exact rfl; exact rfl; exact rfl)
      | ((with_reducible apply OW.gN); exact rfl; exact rfl; exact rfl; exact rfl; exact rfl)
      | ((with_reducible apply QW.gY); exact rfl; exact rfl; exact rfl)
      | ((with_reducible apply QW.gN); exact rfl; exact rfl; exact rfl; exact rfl; exact rfl)
      | ((with_reducible apply OW.gS); exact rfl; exact rfl; exact rfl; all_goals intro h)
      | ((with_reducible apply QW.gS); exact rfl; exact rfl; exact rfl; all_goals intro h)
      | with_reducible apply OW.app
      | with_reducible apply OW.app0
      | with_reducible apply QW.app
      | with_reducible apply QW.app0
      | with_reducible apply OW.nil
      | ((with_reducible apply QW.nil); intro w hcl; replace H := H.ext hcl; clear hcl)
      | ((with_reducible apply RW.one); exact rfl; decide +kernel)
      | with_reducible apply thn_n
      | with_reducible apply CW.seq
      | with_reducible apply CW.region
      | ((with_reducible apply CW.regionD mixed); decide +kernel)
      | with_reducible apply CW.block
      | with_reducible apply CW.ret
      | with_reducible apply CW.exit
      | with_reducible apply CW.skip
      | with_reducible apply thn_r
      | with_reducible apply thn_e
      | with_reducible apply blk_n
      | with_reducible apply blk_r
      | ((with_reducible apply blk_e1); exact rfl)
      | ((with_reducible apply blk_e0); exact rfl)
      | ((with_reducible apply CW.condT); exact rfl)
      | ((with_reducible apply CW.condF); exact rfl))
  refine CW.loopI [(2, 3), (5, 5), (8, 23)] (fun k : Nat => [(8, .int .i64 (k : Int)), (3, .int .i64 (lastOf l k))]) (fun k w => k ≤ l.length ∧ (∀ j, j < k → badAuc l j = false) ∧ St w0 [] w) (fun k => l.length - k) 0 ⟨rfl, rfl, trivial⟩ ⟨Nat.zero_le _, fun j hj => by omega, H⟩ ?_
  clear H
  rintro k g w ⟨hk, hpk, H⟩
  repeat' (first
      | ((with_reducible apply OW.p sg); exact rfl; exact rfl; exact rfl; exact rfl)
      | ((with_reducible apply QW.p sg); exact rfl; exact rfl; exact rfl; exact rfl)
      | ((with_reducible apply OW.go); exact rfl)
      | ((with_reducible apply QW.go); exact rfl)
      | ((with_reducible apply OX.pure sg); exact rfl; exact rfl; exact rfl)
      | ((with_reducible apply QX.pure sg); exact rfl; exact rfl; exact rfl)
      | ((with_reducible apply OX.val); exact rfl; exact rfl; exact Yq.loadS sg rfl rfl H.mem (by first | exact List.Mem.head _ | exact List.Mem.tail _ (List.Mem.head _) | exact List.Mem.tail _ (List.Mem.tail _ (List.Mem.head _)) | exact List.Mem.tail _ (List.Mem.tail _ (List.Mem.tail _ (List.Mem.head _))) | exact List.Mem.tail _ (List.Mem.tail _ (List.Mem.tail _ (List.Mem.tail _ (List.Mem.head _)))) | (repeat (first | exact List.Mem.head _ | refine List.Mem.tail _ ?_))) rfl rfl)
      | ((with_reducible apply QX.val); exact rfl; exact rfl; exact Yq.loadS sg rfl rfl H.mem (by first | exact List.Mem.head _ | exact List.Mem.tail _ (List.Mem.head _) | exact List.Mem.tail _ (List.Mem.tail _ (List.Mem.head _)) | exact List.Mem.tail _ (List.Mem.tail _ (List.Mem.tail _ (List.Mem.head _))) | exact List.Mem.tail _ (List.Mem.tail _ (List.Mem.tail _ (List.Mem.tail _ (List.Mem.head _)))) | (repeat (first | exact List.Mem.head _ | refine List.Mem.tail _ ?_))) rfl rfl)
      | (refine OX.box H rfl rfl rfl rfl rfl ?_; intro b w H _)
      | (refine OX.alloc sg H rfl rfl rfl rfl rfl ?_; intro b w H _)
      | ((with_reducible apply OX.store sg H); exact rfl; exact rfl; exact rfl; exact rfl; exact rfl; exact rfl; (repeat (first | exact Up.here | apply Up.there)); exact rfl; exact rfl; exact rfl; exact rfl; intro w H)
      | ((with_reducible apply RW.nil); exact rfl)
      | ((with_reducible apply OW.gY); exact rfl; exact rfl; exact rfl)
      | ((with_reducible apply OW.gN); exact rfl; exact rfl; exact rfl; exact rfl; exact rfl)
      | ((with_reducible apply QW.gY); exact rfl; exact rfl; exact rfl)
      | ((with_reducible apply QW.gN); exact rfl; exact rfl; exact rfl; exact rfl; exact rfl)
      | ((with_reducible apply OW.gS); exact rfl; exact rfl; exact rfl; all_goals intro h)
      | ((with_reducible apply QW.gS); exact rfl; exact rfl; exact rfl; all_goals intro h)
      | with_reducible apply OW.app
      | with_reducible apply OW.app0
      | with_reducible apply QW.app
      | with_reducible apply QW.app0
      | with_reducible apply OW.nil
      | ((with_reducible apply QW.nil); intro w hcl; replace H := H.ext hcl; clear hcl)
      | ((with_reducible apply RW.one); exact rfl; decide +kernel)
      | with_reducible apply thn_n
      | with_reducible apply CW.seq
      | with_reducible apply CW.region
      | ((with_reducible apply CW.regionD mixed); decide +kernel)
      | with_reducible apply CW.block
      | with_reducible apply CW.ret
      | with_reducible apply CW.exit
      | with_reducible apply CW.skip
      | with_reducible apply thn_r
      | with_reducible apply thn_e
      | with_reducible apply blk_n
      | with_reducible apply blk_r
      | ((with_reducible apply blk_e1); exact rfl)
      | ((with_reducible apply blk_e0); exact rfl)
      | ((with_reducible apply CW.condT); exact rfl)
      | ((with_reducible apply CW.condF); exact rfl))
  refine CW.cond rfl (fun h => ?_) (fun h => ?_)
  · have hlt : k < l.length := by simpa using h
    repeat' (first
        | ((with_reducible apply OW.p sg); exact rfl; exact rfl; exact rfl; exact rfl)
        | ((with_reducible apply QW.p sg); exact rfl; exact rfl; exact rfl; exact rfl)
        | ((with_reducible apply OW.go); exact rfl)
        | ((with_reducible apply QW.go); exact rfl)
        | ((with_reducible apply OX.pure sg); exact rfl; exact rfl; exact rfl)
        | ((with_reducible apply QX.pure sg); exact rfl; exact rfl; exact rfl)
        | ((with_reducible apply OX.val); exact rfl; exact rfl; exact Yq.loadS sg rfl rfl H.mem (by first | exact List.Mem.head _ | exact List.Mem.tail _ (List.Mem.head _) | exact List.Mem.tail _ (List.Mem.tail _ (List.Mem.head _)) | exact List.Mem.tail _ (List.Mem.tail _ (List.Mem.tail _ (List.Mem.head _))) | exact List.Mem.tail _ (List.Mem.tail _ (List.Mem.tail _ (List.Mem.tail _ (List.Mem.head _)))) | (repeat (first | exact List.Mem.head _ | refine List.Mem.tail _ ?_))) rfl rfl)
        | ((with_reducible apply QX.val); exact rfl; exact rfl; exact Yq.loadS sg rfl rfl H.mem (by first | exact List.Mem.head _ | exact List.Mem.tail _ (List.Mem.head _) | exact List.Mem.tail _ (List.Mem.tail _ (List.Mem.head _)) | exact List.Mem.tail _ (List.Mem.tail _ (List.Mem.tail _ (List.Mem.head _))) | exact List.Mem.tail _ (List.Mem.tail _ (List.Mem.tail _ (List.Mem.tail _ (List.Mem.head _)))) | (repeat (first | exact List.Mem.head _ | refine List.Mem.tail _ ?_))) rfl rfl)
        | (refine OX.box H rfl rfl rfl rfl rfl ?_; intro b w H _)
        | (refine OX.alloc sg H rfl rfl rfl rfl rfl ?_; intro b w H _)
        | ((with_reducible apply OX.store sg H); exact rfl; exact rfl; exact rfl; exact rfl; exact rfl; exact rfl; (repeat (first | exact Up.here | apply Up.there)); exact rfl; exact rfl; exact rfl; exact rfl; intro w H)
        | ((with_reducible apply RW.nil); exact rfl)
        | ((with_reducible apply OX.val); exact rfl; exact rfl; exact Yq.ixB sg hs rfl rfl rfl rfl rfl rfl rfl (by first | with_reducible exact Int.toNat_natCast _ | exact toNat_pred (by omega) (by omega) | with_reducible exact toNat_0 | exact toNat_self _) (by omega) (by omega))
        | ((with_reducible apply QX.val); exact rfl; exact rfl; exact Yq.ixB sg hs rfl rfl rfl rfl rfl rfl rfl (by first | with_reducible exact Int.toNat_natCast _ | exact toNat_pred (by omega) (by omega) | with_reducible exact toNat_0 | exact toNat_self _) (by omega) (by omega))
        | ((with_reducible apply OX.val); exact rfl; exact rfl; exact Yq.loadB sg hs (H.memF hF) rfl rfl rfl rfl rfl (by omega))
        | ((with_reducible apply QX.val); exact rfl; exact rfl; exact Yq.loadB sg hs (H.memF hF) rfl rfl rfl rfl rfl (by omega))
        | ((with_reducible apply OX.call); exact rfl; exact rfl; exact En.fn ent17 rfl rfl; exact c_May (l.getD k default) _ (H.memF hF) (hbs k hlt); intro w hcl; replace H := H.ext hcl; clear hcl)
        | ((with_reducible apply QX.call); exact rfl; exact rfl; exact En.fn ent17 rfl rfl; exact (fun _ hcl => c_May (l.getD k default) _ ((H.ext hcl).memF hF) (hbs k hlt)))
        | ((with_reducible apply OW.gY); exact rfl; exact rfl; exact rfl)
        | ((with_reducible apply OW.gN); exact rfl; exact rfl; exact rfl; exact rfl; exact rfl)
        | ((with_reducible apply QW.gY); exact rfl; exact rfl; exact rfl)
        | ((with_reducible apply QW.gN); exact rfl; exact rfl; exact rfl; exact rfl; exact rfl)
        | ((with_reducible apply OW.gS); exact rfl; exact rfl; exact rfl; all_goals intro h)
        | ((with_reducible apply QW.gS); exact rfl; exact rfl; exact rfl; all_goals intro h)
        | with_reducible apply OW.app
        | with_reducible apply OW.app0
        | with_reducible apply QW.app
        | with_reducible apply QW.app0
        | with_reducible apply OW.nil
        | ((with_reducible apply QW.nil); intro w hcl; replace H := H.ext hcl; clear hcl)
        | ((with_reducible apply RW.one); exact rfl; decide +kernel)
        | with_reducible apply thn_n
        | with_reducible apply CW.seq
        | with_reducible apply CW.region
        | ((with_reducible apply CW.regionD mixed); decide +kernel)
        | with_reducible apply CW.block
        | with_reducible apply CW.ret
        | with_reducible apply CW.exit
        | with_reducible apply CW.skip
        | with_reducible apply thn_r
        | with_reducible apply thn_e
        | with_reducible apply blk_n
        | with_reducible apply blk_r
        | ((with_reducible apply blk_e1); exact rfl)
        | ((with_reducible apply blk_e0); exact rfl)
        | ((with_reducible apply CW.condT); exact rfl)
        | ((with_reducible apply CW.condF); exact rfl)
        | ((with_reducible apply CW.cond); exact rfl; all_goals intro h))
    all_goals first
      | exact ret1 rfl H.cl (by
          have hbad : badAuc l k = true := by simp only [badAuc, *]; simp
          rw [mayAllF, idx_hit hlt hpk hbad, decide_eq_false (show ¬ ((k : Int) < 0) by omega), Bool.false_and])
      | (refine Again.mk (k + 1) rfl ⟨vsucc (by omega), rfl, trivial⟩ ⟨hlt, fun j hj => ?_, H.sub (List.nil_sublist _)⟩ (by omega)
         by_cases hj' : j = k
         · have hbad : badAuc l k = false := by simp only [badAuc, *]; simp
           rw [hj']; exact hbad
         · exact hpk j (by omega))
  · repeat' (first
      | ((with_reducible apply OW.p sg); exact rfl; exact rfl; exact rfl; exact rfl)
      | ((with_reducible apply QW.p sg); exact rfl; exact rfl; exact rfl; exact rfl)
      | ((with_reducible apply OW.go); exact rfl)
      | ((with_reducible apply QW.go); exact rfl)
      | ((with_reducible apply OX.pure sg); exact rfl; exact rfl; exact rfl)
      | ((with_reducible apply QX.pure sg); exact rfl; exact rfl; exact rfl)
      | ((with_reducible apply OX.val); exact rfl; exact rfl; exact Yq.loadS sg rfl rfl H.mem (by first | exact List.Mem.head _ | exact List.Mem.tail _ (List.Mem.head _) | exact List.Mem.tail _ (List.Mem.tail _ (List.Mem.head _)) | exact List.Mem.tail _ (List.Mem.tail _ (List.Mem.tail _ (List.Mem.head _))) | exact List.Mem.tail _ (List.Mem.tail _ (List.Mem.tail _ (List.Mem.tail _ (List.Mem.head _)))) | (repeat (first | exact List.Mem.head _ | refine List.Mem.tail _ ?_))) rfl rfl)
      | ((with_reducible apply QX.val); exact rfl; exact rfl; exact Yq.loadS sg rfl rfl H.mem (by first | exact List.Mem.head _ | exact List.Mem.tail _ (List.Mem.head _) | exact List.Mem.tail _ (List.Mem.tail _ (List.Mem.head _)) | exact List.Mem.tail _ (List.Mem.tail _ (List.Mem.tail _ (List.Mem.head _))) | exact List.Mem.tail _ (List.Mem.tail _ (List.Mem.tail _ (List.Mem.tail _ (List.Mem.head _)))) | (repeat (first | exact List.Mem.head _ | refine List.Mem.tail _ ?_))) rfl rfl)
      | (refine OX.box H rfl rfl rfl rfl rfl ?_; intro b w H _)
      | (refine OX.alloc sg H rfl rfl rfl rfl rfl ?_; intro b w H _)
      | ((with_reducible apply OX.store sg H); exact rfl; exact rfl; exact rfl; exact rfl; exact rfl; exact rfl; (repeat (first | exact Up.here | apply Up.there)); exact rfl; exact rfl; exact rfl; exact rfl; intro w H)
      | ((with_reducible apply RW.nil); exact rfl)
      | ((with_reducible apply OW.gY); exact rfl; exact rfl; exact rfl)
      | ((with_reducible apply OW.gN); exact rfl; exact rfl; exact rfl; exact rfl; exact rfl)
      | ((with_reducible apply QW.gY); exact rfl; exact rfl; exact rfl)
      | ((with_reducible apply QW.gN); exact rfl; exact rfl; exact rfl; exact rfl; exact rfl)
      | ((with_reducible apply OW.gS); exact rfl; exact rfl; exact rfl; all_goals intro h)
      | ((with_reducible apply QW.gS); exact rfl; exact rfl; exact rfl; all_goals intro h)
      | with_reducible apply OW.app
      | with_reducible apply OW.app0
      | with_reducible apply QW.app
      | with_reducible apply QW.app0
      | with_reducible apply OW.nil
      | ((with_reducible apply QW.nil); intro w hcl; replace H := H.ext hcl; clear hcl)
      | ((with_reducible apply RW.one); exact rfl; decide +kernel)
      | with_reducible apply thn_n
      | with_reducible apply CW.seq
      | with_reducible apply CW.region
      | ((with_reducible apply CW.regionD mixed); decide +kernel)
      | with_reducible apply CW.block
      | with_reducible apply CW.ret
      | with_reducible apply CW.exit
      | with_reducible apply CW.skip
      | with_reducible apply thn_r
      | with_reducible apply thn_e
      | with_reducible apply blk_n
      | with_reducible apply blk_r
      | ((with_reducible apply blk_e1); exact rfl)
      | ((with_reducible apply blk_e0); exact rfl)
      | ((with_reducible apply CW.condT); exact rfl)
      | ((with_reducible apply CW.condF); exact rfl))
    have hkn : k = l.length := by simp at h; omega
    subst hkn
    exact ret1 rfl H.cl (by rw [mayAllF, idx_miss hpk]; simp)

def dueF (x : Auc) (clock : Int) : Bool := mayF x && decide (x.fin ≤ clock)
theorem c_Due {a : Option Addr} {cap : Nat} (x : Auc) (clock : Int) {F : Frag} (w0 : World) (hF : Mem w0 F) (hs : Bids F a cap x.bids) :
    Calls Try.prog 26 [.agg (x.cells a cap).toArray, .int .i64 clock].toArray w0 (Ret (.bool (dueF x clock)) w0) := by
  refine enter [.tmp 4] Try.func26 rfl Try.ntmps26 rfl rfl ?_
  have H := St.start w0
  repeat' (first
      | ((with_reducible apply OW.p sg); exact rfl; exact rfl; exact rfl; exact rfl)
      | ((with_reducible apply QW.p sg); exact rfl; exact rfl; exact rfl; exact rfl)
      | ((with_reducible apply OW.go); exact rfl)
      | ((with_reducible apply QW.go); exact rfl)
      | ((with_reducible apply OX.pure sg); exact rfl; exact rfl; exact rfl)
      | ((with_reducible apply QX.pure sg); exact rfl; exact rfl; exact rfl)
      | ((with_reducible apply OX.val); exact rfl; exact rfl; exact Yq.loadS sg rfl rfl H.mem (by first | exact List.Mem.head _ | exact List.Mem.tail _ (List.Mem.head _) | exact List.Mem.tail _ (List.Mem.tail _ (List.Mem.head _)) | exact List.Mem.tail _ (List.Mem.tail _ (List.Mem.tail _ (List.Mem.head _))) | exact List.Mem.tail _ (List.Mem.tail _ (List.Mem.tail _ (List.Mem.tail _ (List.Mem.head _)))) | (repeat (first | exact List.Mem.head _ | refine List.Mem.tail _ ?_))) rfl rfl)
      | ((with_reducible apply QX.val); exact rfl; exact rfl; exact Yq.loadS sg rfl rfl H.mem (by first | exact List.Mem.head _ | exact List.Mem.tail _ (List.Mem.head _) | exact List.Mem.tail _ (List.Mem.tail _ (List.Mem.head _)) | exact List.Mem.tail _ (List.Mem.tail _ (List.Mem.tail _ (List.Mem.head _))) | exact List.Mem.tail _ (List.Mem.tail _ (List.Mem.tail _ (List.Mem.tail _ (List.Mem.head _)))) | (repeat (first | exact List.Mem.head _ | refine List.Mem.tail _ ?_))) rfl rfl)
      | (refine OX.box H rfl rfl rfl rfl rfl ?_; intro b w H _)
      | (refine OX.alloc sg H rfl rfl rfl rfl rfl ?_; intro b w H _)
      | ((with_reducible apply OX.store sg H); exact rfl; exact rfl; exact rfl; exact rfl; exact rfl; exact rfl; (repeat (first | exact Up.here | apply Up.there)); exact rfl; exact rfl; exact rfl; exact rfl; intro w H)
      | ((with_reducible apply RW.nil); exact rfl)
      | ((with_reducible apply OX.call); exact rfl; exact rfl; exact En.fn ent17 rfl rfl; exact c_May x _ (H.memF hF) hs; intro w hcl; replace H := H.ext hcl; clear hcl)
      | ((with_reducible apply QX.call); exact rfl; exact rfl; exact En.fn ent17 rfl rfl; exact (fun _ hcl => c_May x _ ((H.ext hcl).memF hF) hs))
      | ((with_reducible apply OW.gY); exact rfl; exact rfl; exact rfl)
      | ((with_reducible apply OW.gN); exact rfl; exact rfl; exact rfl; exact rfl; exact rfl)
      | ((with_reducible apply QW.gY); exact rfl; exact rfl; exact rfl)
      | ((with_reducible apply QW.gN); exact rfl; exact rfl; exact rfl; exact rfl; exact rfl)
      | ((with_reducible apply OW.gS); exact rfl; exact rfl; exact rfl; all_goals intro h)
      | ((with_reducible apply QW.gS); exact rfl; exact rfl; exact rfl; all_goals intro h)
      | with_reducible apply OW.app
      | with_reducible apply OW.app0
      | with_reducible apply QW.app
      | with_reducible apply QW.app0
      | with_reducible apply OW.nil
      | ((with_reducible apply QW.nil); intro w hcl; replace H := H.ext hcl; clear hcl)
      | ((with_reducible apply RW.one); exact rfl; decide +kernel)
      | with_reducible apply thn_n
      | with_reducible apply CW.seq
      | with_reducible apply CW.region
      | ((with_reducible apply CW.regionD mixed); decide +kernel)
      | with_reducible apply CW.block
      | with_reducible apply CW.ret
      | with_reducible apply CW.exit
      | with_reducible apply CW.skip
      | with_reducible apply thn_r
      | with_reducible apply thn_e
      | with_reducible apply blk_n
      | with_reducible apply blk_r
      | ((with_reducible apply blk_e1); exact rfl)
      | ((with_reducible apply blk_e0); exact rfl)
      | ((with_reducible apply CW.condT); exact rfl)
      | ((with_reducible apply CW.condF); exact rfl)
      | ((with_reducible apply CW.cond); exact rfl; all_goals intro h))
  all_goals first | exact ret1 rfl H.cl (by simp only [dueF, *]; simp)

def sameF (x y : Auc) : Bool := x.id == y.id && x.seller == y.seller && x.inst == y.inst && x.sealed == y.sealed && x.qty == y.qty && x.reserve == y.reserve && x.step == y.step && x.fin == y.fin && decide (x.bids = y.bids)
set_option maxHeartbeats 1000000 in
theorem c_Same {a a' : Option Addr} {cap cap' : Nat} (x y : Auc) {F : Frag} (w0 : World) (hF : Mem w0 F) (hs : Bids F a cap x.bids) (hs' : Bids F a' cap' y.bids) :
    Calls Try.prog 41 [.agg (x.cells a cap).toArray, .agg (y.cells a' cap').toArray].toArray w0 (Ret (.bool (sameF x y)) w0) := by
  refine enter [.tmp 4] Try.func41 rfl Try.ntmps41 rfl rfl ?_
  have H := St.start w0
  repeat' (first
      | ((with_reducible apply OW.p sg); exact rfl; exact rfl; exact rfl; exact rfl)
      | ((with_reducible apply QW.p sg); exact rfl; exact rfl; exact rfl; exact rfl)
      | ((with_reducible apply OW.go); exact rfl)
      | ((with_reducible apply QW.go); exact rfl)
      | ((with_reducible apply OX.pure sg); exact rfl; exact rfl; exact rfl)
      | ((with_reducible apply QX.pure sg); exact rfl; exact rfl; exact rfl)
      | ((with_reducible apply OX.val); exact rfl; exact rfl; exact Yq.loadS sg rfl rfl H.mem (by first | exact List.Mem.head _ | exact List.Mem.tail _ (List.Mem.head _) | exact List.Mem.tail _ (List.Mem.tail _ (List.Mem.head _)) | exact List.Mem.tail _ (List.Mem.tail _ (List.Mem.tail _ (List.Mem.head _))) | exact List.Mem.tail _ (List.Mem.tail _ (List.Mem.tail _ (List.Mem.tail _ (List.Mem.head _)))) | (repeat (first | exact List.Mem.head _ | refine List.Mem.tail _ ?_))) rfl rfl)
      | ((with_reducible apply QX.val); exact rfl; exact rfl; exact Yq.loadS sg rfl rfl H.mem (by first | exact List.Mem.head _ | exact List.Mem.tail _ (List.Mem.head _) | exact List.Mem.tail _ (List.Mem.tail _ (List.Mem.head _)) | exact List.Mem.tail _ (List.Mem.tail _ (List.Mem.tail _ (List.Mem.head _))) | exact List.Mem.tail _ (List.Mem.tail _ (List.Mem.tail _ (List.Mem.tail _ (List.Mem.head _)))) | (repeat (first | exact List.Mem.head _ | refine List.Mem.tail _ ?_))) rfl rfl)
      | (refine OX.box H rfl rfl rfl rfl rfl ?_; intro b w H _)
      | (refine OX.alloc sg H rfl rfl rfl rfl rfl ?_; intro b w H _)
      | ((with_reducible apply OX.store sg H); exact rfl; exact rfl; exact rfl; exact rfl; exact rfl; exact rfl; (repeat (first | exact Up.here | apply Up.there)); exact rfl; exact rfl; exact rfl; exact rfl; intro w H)
      | ((with_reducible apply RW.nil); exact rfl)
      | ((with_reducible apply OX.call); exact rfl; exact rfl; exact En.fn ent58 rfl rfl; exact c_EqualBid x.bids y.bids _ (H.memF hF) hs hs'; intro w hcl; replace H := H.ext hcl; clear hcl)
      | ((with_reducible apply QX.call); exact rfl; exact rfl; exact En.fn ent58 rfl rfl; exact (fun _ hcl => c_EqualBid x.bids y.bids _ ((H.ext hcl).memF hF) hs hs'))
      | ((with_reducible apply OW.gY); exact rfl; exact rfl; exact rfl)
      | ((with_reducible apply OW.gN); exact rfl; exact rfl; exact rfl; exact rfl; exact rfl)
      | ((with_reducible apply QW.gY); exact rfl; exact rfl; exact rfl)
      | ((with_reducible apply QW.gN); exact rfl; exact rfl; exact rfl; exact rfl; exact rfl)
      | ((with_reducible apply OW.gS); exact rfl; exact rfl; exact rfl; all_goals intro h)
      | ((with_reducible apply QW.gS); exact rfl; exact rfl; exact rfl; all_goals intro h)
      | with_reducible apply OW.app
      | with_reducible apply OW.app0
      | with_reducible apply QW.app
      | with_reducible apply QW.app0
      | with_reducible apply OW.nil
      | ((with_reducible apply QW.nil); intro w hcl; replace H := H.ext hcl; clear hcl)
      | ((with_reducible apply RW.one); exact rfl; decide +kernel)
      | with_reducible apply thn_n
      | with_reducible apply CW.seq
      | with_reducible apply CW.region
      | ((with_reducible apply CW.regionD mixed); decide +kernel)
      | with_reducible apply CW.block
      | with_reducible apply CW.ret
      | with_reducible apply CW.exit
      | with_reducible apply CW.skip
      | with_reducible apply thn_r
      | with_reducible apply thn_e
      | with_reducible apply blk_n
      | with_reducible apply blk_r
      | ((with_reducible apply blk_e1); exact rfl)
      | ((with_reducible apply blk_e0); exact rfl)
      | ((with_reducible apply CW.condT); exact rfl)
      | ((with_reducible apply CW.condF); exact rfl)
      | ((with_reducible apply CW.cond); exact rfl; all_goals intro h))
  all_goals first | exact ret1 rfl H.cl (by simp only [sameF, *]; simp)

/-! ### What is held -/
def amountTo (l : List Bid) (acct : Int) : Nat → Int
  | 0 => 0
  | k + 1 => if (l.getD k default).acct == acct then (l.getD k default).amount else amountTo l acct k
def heldF (x : Auc) (acct : Int) : Int × Int :=
  if mayF x then (amountTo x.bids acct x.bids.length, if x.seller == acct then x.qty else 0) else (0, 0)
set_option maxHeartbeats 1000000 in
theorem c_Held {a : Option Addr} {cap : Nat} (x : Auc) (acct : Int) {F : Frag} (w0 : World) (hF : Mem w0 F) (hs0 : Bids F a cap x.bids) :
    Calls Try.prog 35 [.agg (x.cells a cap).toArray, .int .i64 acct].toArray w0 (Ret (.tuple #[.int .i64 (heldF x acct).1, .int .i64 (heldF x acct).2]) w0) := by
  obtain ⟨hn, hc, b0, off, cs, T, fr, hs⟩ := id hs0
  refine enter [.tmp 4, .tmp 5] Try.func35 rfl Try.ntmps35 rfl rfl ?_
  have H := St.start w0
  repeat' (first
      | ((with_reducible apply OW.p sg); exact rfl; exact rfl; exact rfl; exact rfl)
      | ((with_reducible apply QW.p sg); exact rfl; exact rfl; exact rfl; exact rfl)
      | ((with_reducible apply OW.go); exact rfl)
      | ((with_reducible apply QW.go); exact rfl)
      | ((with_reducible apply OX.pure sg); exact rfl; exact rfl; exact rfl)
      | ((with_reducible apply QX.pure sg); exact rfl; exact rfl; exact rfl)
      | ((with_reducible apply OX.val); exact rfl; exact rfl; exact Yq.loadS sg rfl rfl H.mem (by first | exact List.Mem.head _ | exact List.Mem.tail _ (List.Mem.head _) | exact List.Mem.tail _ (List.Mem.tail _ (List.Mem.head _)) | exact List.Mem.tail _ (List.Mem.tail _ (List.Mem.tail _ (List.Mem.head _))) | exact List.Mem.tail _ (List.Mem.tail _ (List.Mem.tail _ (List.Mem.tail _ (List.Mem.head _)))) | (repeat (first | exact List.Mem.head _ | refine List.Mem.tail _ ?_))) rfl rfl)
      | ((with_reducible apply QX.val); exact rfl; exact rfl; exact Yq.loadS sg rfl rfl H.mem (by first | exact List.Mem.head _ | exact List.Mem.tail _ (List.Mem.head _) | exact List.Mem.tail _ (List.Mem.tail _ (List.Mem.head _)) | exact List.Mem.tail _ (List.Mem.tail _ (List.Mem.tail _ (List.Mem.head _))) | exact List.Mem.tail _ (List.Mem.tail _ (List.Mem.tail _ (List.Mem.tail _ (List.Mem.head _)))) | (repeat (first | exact List.Mem.head _ | refine List.Mem.tail _ ?_))) rfl rfl)
      | (refine OX.box H rfl rfl rfl rfl rfl ?_; intro b w H _)
      | (refine OX.alloc sg H rfl rfl rfl rfl rfl ?_; intro b w H _)
      | ((with_reducible apply OX.store sg H); exact rfl; exact rfl; exact rfl; exact rfl; exact rfl; exact rfl; (repeat (first | exact Up.here | apply Up.there)); exact rfl; exact rfl; exact rfl; exact rfl; intro w H)
      | ((with_reducible apply RW.nil); exact rfl)
      | ((with_reducible apply OX.call); exact rfl; exact rfl; exact En.fn ent17 rfl rfl; exact c_May x _ (H.memF hF) hs0; intro w hcl; replace H := H.ext hcl; clear hcl)
      | ((with_reducible apply QX.call); exact rfl; exact rfl; exact En.fn ent17 rfl rfl; exact (fun _ hcl => c_May x _ ((H.ext hcl).memF hF) hs0))
      | ((with_reducible apply OW.gY); exact rfl; exact rfl; exact rfl)
      | ((with_reducible apply OW.gN); exact rfl; exact rfl; exact rfl; exact rfl; exact rfl)
      | ((with_reducible apply QW.gY); exact rfl; exact rfl; exact rfl)
      | ((with_reducible apply QW.gN); exact rfl; exact rfl; exact rfl; exact rfl; exact rfl)
      | ((with_reducible apply OW.gS); exact rfl; exact rfl; exact rfl; all_goals intro h)
      | ((with_reducible apply QW.gS); exact rfl; exact rfl; exact rfl; all_goals intro h)
      | with_reducible apply OW.app
      | with_reducible apply OW.app0
      | with_reducible apply QW.app
      | with_reducible apply QW.app0
      | with_reducible apply OW.nil
      | ((with_reducible apply QW.nil); intro w hcl; replace H := H.ext hcl; clear hcl)
      | ((with_reducible apply RW.one); exact rfl; decide +kernel)
      | with_reducible apply thn_n
      | with_reducible apply CW.seq
      | with_reducible apply CW.region
      | ((with_reducible apply CW.regionD mixed); decide +kernel)
      | with_reducible apply CW.block
      | with_reducible apply CW.ret
      | with_reducible apply CW.exit
      | with_reducible apply CW.skip
      | with_reducible apply thn_r
      | with_reducible apply thn_e
      | with_reducible apply blk_n
      | with_reducible apply blk_r
      | ((with_reducible apply blk_e1); exact rfl)
      | ((with_reducible apply blk_e0); exact rfl)
      | ((with_reducible apply CW.condT); exact rfl)
      | ((with_reducible apply CW.condF); exact rfl))
  refine CW.cond rfl (fun h => ?_) (fun h => ?_)
  · repeat' (first
      | ((with_reducible apply OW.p sg); exact rfl; exact rfl; exact rfl; exact rfl)
      | ((with_reducible apply QW.p sg); exact rfl; exact rfl; exact rfl; exact rfl)
      | ((with_reducible apply OW.go); exact rfl)
      | ((with_reducible apply QW.go); exact rfl)
      | ((with_reducible apply OX.pure sg); exact rfl; exact rfl; exact rfl)
      | ((with_reducible apply QX.pure sg); exact rfl; exact rfl; exact rfl)
      | ((with_reducible apply OX.val); exact rfl; exact rfl; exact Yq.loadS sg rfl rfl H.mem (by first | exact List.Mem.head _ | exact List.Mem.tail _ (List.Mem.head _) | exact List.Mem.tail _ (List.Mem.tail _ (List.Mem.head _)) | exact List.Mem.tail _ (List.Mem.tail _ (List.Mem.tail _ (List.Mem.head _))) | exact List.Mem.tail _ (List.Mem.tail _ (List.Mem.tail _ (List.Mem.tail _ (List.Mem.head _)))) | (repeat (first | exact List.Mem.head _ | refine List.Mem.tail _ ?_))) rfl rfl)
      | ((with_reducible apply QX.val); exact rfl; exact rfl; exact Yq.loadS sg rfl rfl H.mem (by first | exact List.Mem.head _ | exact List.Mem.tail _ (List.Mem.head _) | exact List.Mem.tail _ (List.Mem.tail _ (List.Mem.head _)) | exact List.Mem.tail _ (List.Mem.tail _ (List.Mem.tail _ (List.Mem.head _))) | exact List.Mem.tail _ (List.Mem.tail _ (List.Mem.tail _ (List.Mem.tail _ (List.Mem.head _)))) | (repeat (first | exact List.Mem.head _ | refine List.Mem.tail _ ?_))) rfl rfl)
      | (refine OX.box H rfl rfl rfl rfl rfl ?_; intro b w H _)
      | (refine OX.alloc sg H rfl rfl rfl rfl rfl ?_; intro b w H _)
      | ((with_reducible apply OX.store sg H); exact rfl; exact rfl; exact rfl; exact rfl; exact rfl; exact rfl; (repeat (first | exact Up.here | apply Up.there)); exact rfl; exact rfl; exact rfl; exact rfl; intro w H)
      | ((with_reducible apply RW.nil); exact rfl)
      | ((with_reducible apply OW.gY); exact rfl; exact rfl; exact rfl)
      | ((with_reducible apply OW.gN); exact rfl; exact rfl; exact rfl; exact rfl; exact rfl)
      | ((with_reducible apply QW.gY); exact rfl; exact rfl; exact rfl)
      | ((with_reducible apply QW.gN); exact rfl; exact rfl; exact rfl; exact rfl; exact rfl)
      | ((with_reducible apply OW.gS); exact rfl; exact rfl; exact rfl; all_goals intro h)
      | ((with_reducible apply QW.gS); exact rfl; exact rfl; exact rfl; all_goals intro h)
      | with_reducible apply OW.app
      | with_reducible apply OW.app0
      | with_reducible apply QW.app
      | with_reducible apply QW.app0
      | with_reducible apply OW.nil
      | ((with_reducible apply QW.nil); intro w hcl; replace H := H.ext hcl; clear hcl)
      | ((with_reducible apply RW.one); exact rfl; decide +kernel)
      | with_reducible apply thn_n
      | with_reducible apply CW.seq
      | with_reducible apply CW.region
      | ((with_reducible apply CW.regionD mixed); decide +kernel)
      | with_reducible apply CW.block
      | with_reducible apply CW.ret
      | with_reducible apply CW.exit
      | with_reducible apply CW.skip
      | with_reducible apply thn_r
      | with_reducible apply thn_e
      | with_reducible apply blk_n
      | with_reducible apply blk_r
      | ((with_reducible apply blk_e1); exact rfl)
      | ((with_reducible apply blk_e0); exact rfl)
      | ((with_reducible apply CW.condT); exact rfl)
      | ((with_reducible apply CW.condF); exact rfl))
    exact ret2 rfl rfl H.cl (by simp only [Bool.not_eq_true'] at h; simp [heldF, h])
  · repeat' (first
      | ((with_reducible apply OW.p sg); exact rfl; exact rfl; exact rfl; exact rfl)
      | ((with_reducible apply QW.p sg); exact rfl; exact rfl; exact rfl; exact rfl)
      | ((with_reducible apply OW.go); exact rfl)
      | ((with_reducible apply QW.go); exact rfl)
      | ((with_reducible apply OX.pure sg); exact rfl; exact rfl; exact rfl)
      | ((with_reducible apply QX.pure sg); exact rfl; exact rfl; exact rfl)
      | ((with_reducible apply OX.val); exact rfl; exact rfl; exact Yq.loadS sg rfl rfl H.mem (by first | exact List.Mem.head _ | exact List.Mem.tail _ (List.Mem.head _) | exact List.Mem.tail _ (List.Mem.tail _ (List.Mem.head _)) | exact List.Mem.tail _ (List.Mem.tail _ (List.Mem.tail _ (List.Mem.head _))) | exact List.Mem.tail _ (List.Mem.tail _ (List.Mem.tail _ (List.Mem.tail _ (List.Mem.head _)))) | (repeat (first | exact List.Mem.head _ | refine List.Mem.tail _ ?_))) rfl rfl)
      | ((with_reducible apply QX.val); exact rfl; exact rfl; exact Yq.loadS sg rfl rfl H.mem (by first | exact List.Mem.head _ | exact List.Mem.tail _ (List.Mem.head _) | exact List.Mem.tail _ (List.Mem.tail _ (List.Mem.head _)) | exact List.Mem.tail _ (List.Mem.tail _ (List.Mem.tail _ (List.Mem.head _))) | exact List.Mem.tail _ (List.Mem.tail _ (List.Mem.tail _ (List.Mem.tail _ (List.Mem.head _)))) | (repeat (first | exact List.Mem.head _ | refine List.Mem.tail _ ?_))) rfl rfl)
      | (refine OX.box H rfl rfl rfl rfl rfl ?_; intro b w H _)
      | (refine OX.alloc sg H rfl rfl rfl rfl rfl ?_; intro b w H _)
      | ((with_reducible apply OX.store sg H); exact rfl; exact rfl; exact rfl; exact rfl; exact rfl; exact rfl; (repeat (first | exact Up.here | apply Up.there)); exact rfl; exact rfl; exact rfl; exact rfl; intro w H)
      | ((with_reducible apply RW.nil); exact rfl)
      | ((with_reducible apply OW.gY); exact rfl; exact rfl; exact rfl)
      | ((with_reducible apply OW.gN); exact rfl; exact rfl; exact rfl; exact rfl; exact rfl)
      | ((with_reducible apply QW.gY); exact rfl; exact rfl; exact rfl)
      | ((with_reducible apply QW.gN); exact rfl; exact rfl; exact rfl; exact rfl; exact rfl)
      | ((with_reducible apply OW.gS); exact rfl; exact rfl; exact rfl; all_goals intro h)
      | ((with_reducible apply QW.gS); exact rfl; exact rfl; exact rfl; all_goals intro h)
      | with_reducible apply OW.app
      | with_reducible apply OW.app0
      | with_reducible apply QW.app
      | with_reducible apply QW.app0
      | with_reducible apply OW.nil
      | ((with_reducible apply QW.nil); intro w hcl; replace H := H.ext hcl; clear hcl)
      | ((with_reducible apply RW.one); exact rfl; decide +kernel)
      | with_reducible apply thn_n
      | with_reducible apply CW.seq
      | with_reducible apply CW.region
      | ((with_reducible apply CW.regionD mixed); decide +kernel)
      | with_reducible apply CW.block
      | with_reducible apply CW.ret
      | with_reducible apply CW.exit
      | with_reducible apply CW.skip
      | with_reducible apply thn_r
      | with_reducible apply thn_e
      | with_reducible apply blk_n
      | with_reducible apply blk_r
      | ((with_reducible apply blk_e1); exact rfl)
      | ((with_reducible apply blk_e0); exact rfl)
      | ((with_reducible apply CW.condT); exact rfl)
      | ((with_reducible apply CW.condF); exact rfl))
    refine CW.loopI [(4, 4), (7, 7), (14, 24)] (fun k : Nat => [(14, .int .i64 (k : Int)), (4, .int .i64 (amountTo x.bids acct k))]) (fun k w => k ≤ x.bids.length ∧ St w0 [cb b (x.cells a cap) 24] w) (fun k => x.bids.length - k) 0 ⟨rfl, rfl, trivial⟩ ⟨Nat.zero_le _, H⟩ ?_
    clear H
    rintro k g w ⟨hk, H⟩
    repeat' (first
        | ((with_reducible apply OW.p sg); exact rfl; exact rfl; exact rfl; exact rfl)
        | ((with_reducible apply QW.p sg); exact rfl; exact rfl; exact rfl; exact rfl)
        | ((with_reducible apply OW.go); exact rfl)
        | ((with_reducible apply QW.go); exact rfl)
        | ((with_reducible apply OX.pure sg); exact rfl; exact rfl; exact rfl)
        | ((with_reducible apply QX.pure sg); exact rfl; exact rfl; exact rfl)
        | ((with_reducible apply OX.val); exact rfl; exact rfl; exact Yq.loadS sg rfl rfl H.mem (by first | exact List.Mem.head _ | exact List.Mem.tail _ (List.Mem.head _) | exact List.Mem.tail _ (List.Mem.tail _ (List.Mem.head _)) | exact List.Mem.tail _ (List.Mem.tail _ (List.Mem.tail _ (List.Mem.head _))) | exact List.Mem.tail _ (List.Mem.tail _ (List.Mem.tail _ (List.Mem.tail _ (List.Mem.head _)))) | (repeat (first | exact List.Mem.head _ | refine List.Mem.tail _ ?_))) rfl rfl)
        | ((with_reducible apply QX.val); exact rfl; exact rfl; exact Yq.loadS sg rfl rfl H.mem (by first | exact List.Mem.head _ | exact List.Mem.tail _ (List.Mem.head _) | exact List.Mem.tail _ (List.Mem.tail _ (List.Mem.head _)) | exact List.Mem.tail _ (List.Mem.tail _ (List.Mem.tail _ (List.Mem.head _))) | exact List.Mem.tail _ (List.Mem.tail _ (List.Mem.tail _ (List.Mem.tail _ (List.Mem.head _)))) | (repeat (first | exact List.Mem.head _ | refine List.Mem.tail _ ?_))) rfl rfl)
        | (refine OX.box H rfl rfl rfl rfl rfl ?_; intro b w H _)
        | (refine OX.alloc sg H rfl rfl rfl rfl rfl ?_; intro b w H _)
        | ((with_reducible apply OX.store sg H); exact rfl; exact rfl; exact rfl; exact rfl; exact rfl; exact rfl; (repeat (first | exact Up.here | apply Up.there)); exact rfl; exact rfl; exact rfl; exact rfl; intro w H)
        | ((with_reducible apply RW.nil); exact rfl)
        | ((with_reducible apply OW.gY); exact rfl; exact rfl; exact rfl)
        | ((with_reducible apply OW.gN); exact rfl; exact rfl; exact rfl; exact rfl; exact rfl)
        | ((with_reducible apply QW.gY); exact rfl; exact rfl; exact rfl)
        | ((with_reducible apply QW.gN); exact rfl; exact rfl; exact rfl; exact rfl; exact rfl)
        | ((with_reducible apply OW.gS); exact rfl; exact rfl; exact rfl; all_goals intro h)
        | ((with_reducible apply QW.gS); exact rfl; exact rfl; exact rfl; all_goals intro h)
        | with_reducible apply OW.app
        | with_reducible apply OW.app0
        | with_reducible apply QW.app
        | with_reducible apply QW.app0
        | with_reducible apply OW.nil
        | ((with_reducible apply QW.nil); intro w hcl; replace H := H.ext hcl; clear hcl)
        | ((with_reducible apply RW.one); exact rfl; decide +kernel)
        | with_reducible apply thn_n
        | with_reducible apply CW.seq
        | with_reducible apply CW.region
        | ((with_reducible apply CW.regionD mixed); decide +kernel)
        | with_reducible apply CW.block
        | with_reducible apply CW.ret
        | with_reducible apply CW.exit
        | with_reducible apply CW.skip
        | with_reducible apply thn_r
        | with_reducible apply thn_e
        | with_reducible apply blk_n
        | with_reducible apply blk_r
        | ((with_reducible apply blk_e1); exact rfl)
        | ((with_reducible apply blk_e0); exact rfl)
        | ((with_reducible apply CW.condT); exact rfl)
        | ((with_reducible apply CW.condF); exact rfl))
    refine CW.cond rfl (fun h2 => ?_) (fun h2 => ?_)
    · have hlt : k < x.bids.length := by simpa using h2
      repeat' (first
          | ((with_reducible apply OW.p sg); exact rfl; exact rfl; exact rfl; exact rfl)
          | ((with_reducible apply QW.p sg); exact rfl; exact rfl; exact rfl; exact rfl)
          | ((with_reducible apply OW.go); exact rfl)
          | ((with_reducible apply QW.go); exact rfl)
          | ((with_reducible apply OX.pure sg); exact rfl; exact rfl; exact rfl)
          | ((with_reducible apply QX.pure sg); exact rfl; exact rfl; exact rfl)
          | ((with_reducible apply OX.val); exact rfl; exact rfl; exact Yq.loadS sg rfl rfl H.mem (by first | exact List.Mem.head _ | exact List.Mem.tail _ (List.Mem.head _) | exact List.Mem.tail _ (List.Mem.tail _ (List.Mem.head _)) | exact List.Mem.tail _ (List.Mem.tail _ (List.Mem.tail _ (List.Mem.head _))) | exact List.Mem.tail _ (List.Mem.tail _ (List.Mem.tail _ (List.Mem.tail _ (List.Mem.head _)))) | (repeat (first | exact List.Mem.head _ | refine List.Mem.tail _ ?_))) rfl rfl)
          | ((with_reducible apply QX.val); exact rfl; exact rfl; exact Yq.loadS sg rfl rfl H.mem (by first | exact List.Mem.head _ | exact List.Mem.tail _ (List.Mem.head _) | exact List.Mem.tail _ (List.Mem.tail _ (List.Mem.head _)) | exact List.Mem.tail _ (List.Mem.tail _ (List.Mem.tail _ (List.Mem.head _))) | exact List.Mem.tail _ (List.Mem.tail _ (List.Mem.tail _ (List.Mem.tail _ (List.Mem.head _)))) | (repeat (first | exact List.Mem.head _ | refine List.Mem.tail _ ?_))) rfl rfl)
          | (refine OX.box H rfl rfl rfl rfl rfl ?_; intro b w H _)
          | (refine OX.alloc sg H rfl rfl rfl rfl rfl ?_; intro b w H _)
          | ((with_reducible apply OX.store sg H); exact rfl; exact rfl; exact rfl; exact rfl; exact rfl; exact rfl; (repeat (first | exact Up.here | apply Up.there)); exact rfl; exact rfl; exact rfl; exact rfl; intro w H)
          | ((with_reducible apply RW.nil); exact rfl)
          | ((with_reducible apply OX.val); exact rfl; exact rfl; exact Yq.ixB sg hs rfl rfl rfl rfl rfl rfl rfl (by first | with_reducible exact Int.toNat_natCast _ | exact toNat_pred (by omega) (by omega) | with_reducible exact toNat_0 | exact toNat_self _) (by omega) (by omega))
          | ((with_reducible apply QX.val); exact rfl; exact rfl; exact Yq.ixB sg hs rfl rfl rfl rfl rfl rfl rfl (by first | with_reducible exact Int.toNat_natCast _ | exact toNat_pred (by omega) (by omega) | with_reducible exact toNat_0 | exact toNat_self _) (by omega) (by omega))
          | ((with_reducible apply OX.val); exact rfl; exact rfl; exact Yq.loadB sg hs (H.memF hF) rfl rfl rfl rfl rfl (by omega))
          | ((with_reducible apply QX.val); exact rfl; exact rfl; exact Yq.loadB sg hs (H.memF hF) rfl rfl rfl rfl rfl (by omega))
          | ((with_reducible apply OW.gY); exact rfl; exact rfl; exact rfl)
          | ((with_reducible apply OW.gN); exact rfl; exact rfl; exact rfl; exact rfl; exact rfl)
          | ((with_reducible apply QW.gY); exact rfl; exact rfl; exact rfl)
          | ((with_reducible apply QW.gN); exact rfl; exact rfl; exact rfl; exact rfl; exact rfl)
          | ((with_reducible apply OW.gS); exact rfl; exact rfl; exact rfl; all_goals intro h)
          | ((with_reducible apply QW.gS); exact rfl; exact rfl; exact rfl; all_goals intro h)
          | with_reducible apply OW.app
          | with_reducible apply OW.app0
          | with_reducible apply QW.app
          | with_reducible apply QW.app0
          | with_reducible apply OW.nil
          | ((with_reducible apply QW.nil); intro w hcl; replace H := H.ext hcl; clear hcl)
          | ((with_reducible apply RW.one); exact rfl; decide +kernel)
          | with_reducible apply thn_n
          | with_reducible apply CW.seq
          | with_reducible apply CW.region
          | ((with_reducible apply CW.regionD mixed); decide +kernel)
          | with_reducible apply CW.block
          | with_reducible apply CW.ret
          | with_reducible apply CW.exit
          | with_reducible apply CW.skip
          | with_reducible apply thn_r
          | with_reducible apply thn_e
          | with_reducible apply blk_n
          | with_reducible apply blk_r
          | ((with_reducible apply blk_e1); exact rfl)
          | ((with_reducible apply blk_e0); exact rfl)
          | ((with_reducible apply CW.condT); exact rfl)
          | ((with_reducible apply CW.condF); exact rfl)
          | ((with_reducible apply CW.cond); exact rfl; all_goals intro h))
      · refine Again.mk (k + 1) rfl ⟨vsucc (by omega), ?_, trivial⟩ ⟨hlt, H.sub (List.sublist_cons_self _ _)⟩ (by omega)
        show Value.int .i64 (x.bids.getD k default).amount = _
        rw [amountTo, if_pos ‹_›]
      · refine Again.mk (k + 1) rfl ⟨vsucc (by omega), ?_, trivial⟩ ⟨hlt, H.sub (List.sublist_cons_self _ _)⟩ (by omega)
        show Value.int .i64 (amountTo x.bids acct k) = _
        rw [amountTo, if_neg (by simp only [*]; simp)]
    · have hkn : k = x.bids.length := by simp at h2; omega
      subst hkn
      have hm : mayF x = true := by simpa using h
      repeat' (first
          | ((with_reducible apply OW.p sg); exact rfl; exact rfl; exact rfl; exact rfl)
          | ((with_reducible apply QW.p sg); exact rfl; exact rfl; exact rfl; exact rfl)
          | ((with_reducible apply OW.go); exact rfl)
          | ((with_reducible apply QW.go); exact rfl)
          | ((with_reducible apply OX.pure sg); exact rfl; exact rfl; exact rfl)
          | ((with_reducible apply QX.pure sg); exact rfl; exact rfl; exact rfl)
          | ((with_reducible apply OX.val); exact rfl; exact rfl; exact Yq.loadS sg rfl rfl H.mem (by first | exact List.Mem.head _ | exact List.Mem.tail _ (List.Mem.head _) | exact List.Mem.tail _ (List.Mem.tail _ (List.Mem.head _)) | exact List.Mem.tail _ (List.Mem.tail _ (List.Mem.tail _ (List.Mem.head _))) | exact List.Mem.tail _ (List.Mem.tail _ (List.Mem.tail _ (List.Mem.tail _ (List.Mem.head _)))) | (repeat (first | exact List.Mem.head _ | refine List.Mem.tail _ ?_))) rfl rfl)
          | ((with_reducible apply QX.val); exact rfl; exact rfl; exact Yq.loadS sg rfl rfl H.mem (by first | exact List.Mem.head _ | exact List.Mem.tail _ (List.Mem.head _) | exact List.Mem.tail _ (List.Mem.tail _ (List.Mem.head _)) | exact List.Mem.tail _ (List.Mem.tail _ (List.Mem.tail _ (List.Mem.head _))) | exact List.Mem.tail _ (List.Mem.tail _ (List.Mem.tail _ (List.Mem.tail _ (List.Mem.head _)))) | (repeat (first | exact List.Mem.head _ | refine List.Mem.tail _ ?_))) rfl rfl)
          | (refine OX.box H rfl rfl rfl rfl rfl ?_; intro b w H _)
          | (refine OX.alloc sg H rfl rfl rfl rfl rfl ?_; intro b w H _)
          | ((with_reducible apply OX.store sg H); exact rfl; exact rfl; exact rfl; exact rfl; exact rfl; exact rfl; (repeat (first | exact Up.here | apply Up.there)); exact rfl; exact rfl; exact rfl; exact rfl; intro w H)
          | ((with_reducible apply RW.nil); exact rfl)
          | ((with_reducible apply OW.gY); exact rfl; exact rfl; exact rfl)
          | ((with_reducible apply OW.gN); exact rfl; exact rfl; exact rfl; exact rfl; exact rfl)
          | ((with_reducible apply QW.gY); exact rfl; exact rfl; exact rfl)
          | ((with_reducible apply QW.gN); exact rfl; exact rfl; exact rfl; exact rfl; exact rfl)
          | ((with_reducible apply OW.gS); exact rfl; exact rfl; exact rfl; all_goals intro h)
          | ((with_reducible apply QW.gS); exact rfl; exact rfl; exact rfl; all_goals intro h)
          | with_reducible apply OW.app
          | with_reducible apply OW.app0
          | with_reducible apply QW.app
          | with_reducible apply QW.app0
          | with_reducible apply OW.nil
          | ((with_reducible apply QW.nil); intro w hcl; replace H := H.ext hcl; clear hcl)
          | ((with_reducible apply RW.one); exact rfl; decide +kernel)
          | with_reducible apply thn_n
          | with_reducible apply CW.seq
          | with_reducible apply CW.region
          | ((with_reducible apply CW.regionD mixed); decide +kernel)
          | with_reducible apply CW.block
          | with_reducible apply CW.ret
          | with_reducible apply CW.exit
          | with_reducible apply CW.skip
          | with_reducible apply thn_r
          | with_reducible apply thn_e
          | with_reducible apply blk_n
          | with_reducible apply blk_r
          | ((with_reducible apply blk_e1); exact rfl)
          | ((with_reducible apply blk_e0); exact rfl)
          | ((with_reducible apply CW.condT); exact rfl)
          | ((with_reducible apply CW.condF); exact rfl)
          | ((with_reducible apply CW.cond); exact rfl; all_goals intro h))
      all_goals exact ret2 rfl rfl H.cl (by simp only [heldF, *]; simp)
end Go.Proofs.Ytkcoemikglbomaa
