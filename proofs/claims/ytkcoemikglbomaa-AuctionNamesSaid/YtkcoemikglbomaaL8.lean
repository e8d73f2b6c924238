/- The law AuctionNames, walked: an auction that may not be. -/
import Derived.Test.YtkcoemikglbomaaA16
import Derived.Test.YtkcoemikglbomaaP2
import Derived.Test.YtkcoemikglbomaaMore
import Derived.Test.YtkcoemikglbomaaL1
set_option linter.unusedSimpArgs false
set_option linter.unusedVariables false
namespace Go.Proofs.Ytkcoemikglbomaa
open Go Go.Sk Go.RowKit
attribute [local irreducible] Go.Calls
theorem c_RowNo {a : Option Addr} {cap : Nat} (l : List Auc) (ad : Nat → Option Addr × Nat) (clock : Int) {F : Frag} (w0 : World) (hF : Mem w0 F) (hs0 : Aucs F a cap l ad) (hm : mayAllF l = false) :
    Calls Try.prog 29 [.slice a l.length cap, .int .i64 clock].toArray w0 (Ret (.slice none 0 0) w0) := by
  refine enter [.tmp 4] Try.func29 rfl Try.ntmps29 rfl rfl ?_
  have H := St.start w0
  repeat' (first
      | ((with_reducible apply OW.p sg); exact rfl; exact rfl; exact rfl; exact rfl)
      | ((with_reducible apply QW.p sg); exact rfl; exact rfl; exact rfl; exact rfl)
      | ((with_reducible apply OW.go); exact rfl)
      | ((with_reducible apply QW.go); exact rfl)
      | ((with_reducible apply OX.pure sg); exact rfl; exact rfl; exact rfl)
      | ((with_reducible apply QX.pure sg); exact rfl; exact rfl; exact rfl)
      | ((with_reducible apply OX.val); exact rfl; exact rfl; exact Yq.loadS sg rfl rfl H.mem (by first | exact List.Mem.head _ | exact List.Mem.tail _ (List.Mem.head _) | exact List.Mem.tail _ (List.Mem.tail _ (List.Mem.head _)) | exact List.Mem.tail _ (List.Mem.tail _ (List.Mem.tail _ (List.Mem.head _))) | exact List.Mem.tail _ (List.Mem.tail _ (List.Mem.tail _ (List.Mem.tail _ (List.Mem.head _)))) | (repeat (first | exact List.Mem.head _ | refine List.Mem.tail _ ?_))) rfl rfl)
      | ((with_reducible apply QX.val); exact rfl; exact rfl; exact Yq.loadS sg rfl rfl H.mem (by first | exact List.Mem.head _ | exact List.Mem.tail _ (List.Mem.head _) | exact List.Mem.tail _ (List.Mem.tail _ (List.Mem.head _)) | exact List.Mem.tail _ (List.Mem.tail _ (List.Mem.tail _ (List.Mem.head _))) | exact List.Mem.tail _ (List.Mem.tail _ (List.Mem.tail _ (List.Mem.tail _ (List.Mem.head _)))) | (repeat (first | exact List.Mem.head _ | refine List.Mem.tail _ ?_))) rfl rfl)
      | (refine OX.box H rfl rfl rfl rfl rfl ?_; intro b w H _)
      | (refine OX.alloc sg H rfl rfl rfl rfl rfl ?_; intro b w H _)
      | ((with_reducible apply OX.store sg H); exact rfl; exact rfl; exact rfl; exact rfl; exact rfl; exact rfl; (repeat (first | exact Up.here | apply Up.there)); exact rfl; exact rfl; exact rfl; exact rfl; intro w H)
      | ((with_reducible apply RW.nil); exact rfl)
      | ((with_reducible apply OX.call); exact rfl; exact rfl; exact En.fn ent32 rfl rfl; exact c_MayAll l ad _ (H.memF hF) hs0; intro w hcl; replace H := H.ext hcl; clear hcl)
      | ((with_reducible apply QX.call); exact rfl; exact rfl; exact En.fn ent32 rfl rfl; exact (fun _ hcl => c_MayAll l ad _ ((H.ext hcl).memF hF) hs0))
      | ((with_reducible apply OW.gY); exact rfl; exact rfl; exact rfl)
      | ((with_reducible apply OW.gN); exact rfl; exact rfl; exact rfl; exact rfl; exact rfl)
      | ((with_reducible apply QW.gY); exact rfl; exact rfl; exact rfl)
      | ((with_reducible apply QW.gN); exact rfl; exact rfl; exact rfl; exact rfl; exact rfl)
      | ((with_reducible apply OW.gS); exact rfl; exact rfl; exact rfl; all_goals intro h)
      | ((with_reducible apply QW.gS); exact rfl; exact rfl; exact rfl; all_goals intro h)
      | with_reducible apply OW.app
      | with_reducible apply OW.app0
      | with_reducible apply QW.app
      | with_reducible apply QW.app0
      | with_reducible apply OW.nil
      | ((with_reducible apply QW.nil); intro w hcl; replace H := H.ext hcl; clear hcl)
      | ((with_reducible apply RW.one); exact rfl; decide +kernel)
      | with_reducible apply thn_n
      | with_reducible apply CW.seq
      | with_reducible apply CW.region
      | ((with_reducible apply CW.regionD mixed); decide +kernel)
      | with_reducible apply CW.block
      | with_reducible apply CW.ret
      | with_reducible apply CW.exit
      | with_reducible apply CW.skip
      | with_reducible apply thn_r
      | with_reducible apply thn_e
      | with_reducible apply blk_n
      | with_reducible apply blk_r
      | ((with_reducible apply blk_e1); exact rfl)
      | ((with_reducible apply blk_e0); exact rfl)
      | ((with_reducible apply CW.condT); exact rfl)
      | ((with_reducible apply CW.condF); exact rfl))
  refine CW.cond rfl (fun h => ?_) (fun h => ?_)
  · repeat' (first
      | ((with_reducible apply OW.p sg); exact rfl; exact rfl; exact rfl; exact rfl)
      | ((with_reducible apply QW.p sg); exact rfl; exact rfl; exact rfl; exact rfl)
      | ((with_reducible apply OW.go); exact rfl)
      | ((with_reducible apply QW.go); exact rfl)
      | ((with_reducible apply OX.pure sg); exact rfl; exact rfl; exact rfl)
      | ((with_reducible apply QX.pure sg); exact rfl; exact rfl; exact rfl)
      | ((with_reducible apply OX.val); exact rfl; exact rfl; exact Yq.loadS sg rfl rfl H.mem (by first | exact List.Mem.head _ | exact List.Mem.tail _ (List.Mem.head _) | exact List.Mem.tail _ (List.Mem.tail _ (List.Mem.head _)) | exact List.Mem.tail _ (List.Mem.tail _ (List.Mem.tail _ (List.Mem.head _))) | exact List.Mem.tail _ (List.Mem.tail _ (List.Mem.tail _ (List.Mem.tail _ (List.Mem.head _)))) | (repeat (first | exact List.Mem.head _ | refine List.Mem.tail _ ?_))) rfl rfl)
      | ((with_reducible apply QX.val); exact rfl; exact rfl; exact Yq.loadS sg rfl rfl H.mem (by first | exact List.Mem.head _ | exact List.Mem.tail _ (List.Mem.head _) | exact List.Mem.tail _ (List.Mem.tail _ (List.Mem.head _)) | exact List.Mem.tail _ (List.Mem.tail _ (List.Mem.tail _ (List.Mem.head _))) | exact List.Mem.tail _ (List.Mem.tail _ (List.Mem.tail _ (List.Mem.tail _ (List.Mem.head _)))) | (repeat (first | exact List.Mem.head _ | refine List.Mem.tail _ ?_))) rfl rfl)
      | (refine OX.box H rfl rfl rfl rfl rfl ?_; intro b w H _)
      | (refine OX.alloc sg H rfl rfl rfl rfl rfl ?_; intro b w H _)
      | ((with_reducible apply OX.store sg H); exact rfl; exact rfl; exact rfl; exact rfl; exact rfl; exact rfl; (repeat (first | exact Up.here | apply Up.there)); exact rfl; exact rfl; exact rfl; exact rfl; intro w H)
      | ((with_reducible apply RW.nil); exact rfl)
      | ((with_reducible apply OW.gY); exact rfl; exact rfl; exact rfl)
      | ((with_reducible apply OW.gN); exact rfl; exact rfl; exact rfl; exact rfl; exact rfl)
      | ((with_reducible apply QW.gY); exact rfl; exact rfl; exact rfl)
      | ((with_reducible apply QW.gN); exact rfl; exact rfl; exact rfl; exact rfl; exact rfl)
      | ((with_reducible apply OW.gS); exact rfl; exact rfl; exact rfl; all_goals intro h)
      | ((with_reducible apply QW.gS); exact rfl; exact rfl; exact rfl; all_goals intro h)
      | with_reducible apply OW.app
      | with_reducible apply OW.app0
      | with_reducible apply QW.app
      | with_reducible apply QW.app0
      | with_reducible apply OW.nil
      | ((with_reducible apply QW.nil); intro w hcl; replace H := H.ext hcl; clear hcl)
      | ((with_reducible apply RW.one); exact rfl; decide +kernel)
      | with_reducible apply thn_n
      | with_reducible apply CW.seq
      | with_reducible apply CW.region
      | ((with_reducible apply CW.regionD mixed); decide +kernel)
      | with_reducible apply CW.block
      | with_reducible apply CW.ret
      | with_reducible apply CW.exit
      | with_reducible apply CW.skip
      | with_reducible apply thn_r
      | with_reducible apply thn_e
      | with_reducible apply blk_n
      | with_reducible apply blk_r
      | ((with_reducible apply blk_e1); exact rfl)
      | ((with_reducible apply blk_e0); exact rfl)
      | ((with_reducible apply CW.condT); exact rfl)
      | ((with_reducible apply CW.condF); exact rfl))
    exact ret1 rfl H.cl rfl
  · rw [hm] at h; cases h
theorem no_win {z : Auc} (h : mayF z = false) : winF z = (Bid.zero, false) := by simp [winF, h]
theorem no_take {z : Auc} (h : mayF z = false) (y : Bid) : takeF z y = (Auc.zero, 4) := by unfold takeF; rw [if_pos h]
theorem no_held {z : Auc} (h : mayF z = false) (n : Int) : heldF z n = (0, 0) := by simp [heldF, h]
theorem no_all {z : Auc} (h : mayF z = false) : mayAllF [z] = false := by
  have h0 : badAuc [z] 0 = true := by rw [badAuc_zero]; simpa using h
  rw [mayAllF, idx_hit (k := 0) (show 0 < [z].length from Nat.lt_succ_self 0) (fun j hj => absurd hj (Nat.not_lt_zero _)) h0, decide_eq_false (by decide), Bool.false_and]
theorem no_top {z : Auc} (h : mayF z = false) : topF z = (Bid.zero, false) := by
  unfold topF
  rw [if_pos (by simp [h])]
/-- What is asked of an auction that may not be. -/
structure NoC (z : Auc) (a : Option Addr) (cap : Nat) (F : Frag) : Prop where
  win : ∀ {w : World}, Mem w F → Calls Try.prog 18 [.agg (z.cells a cap).toArray].toArray w (Ret (.tuple #[.agg Bid.zero.cells.toArray, .bool false]) w)
  top : ∀ {w : World}, Mem w F → Calls Try.prog 21 [.agg (z.cells a cap).toArray].toArray w (Ret (.tuple #[.agg Bid.zero.cells.toArray, .bool false]) w)
  take : ∀ {w : World}, Mem w F → Calls Try.prog 15 [.agg (z.cells a cap).toArray, .agg Bid.zero.cells.toArray].toArray w (RetF (fun M v => ∃ a c, v = .tuple #[.agg (Auc.zero.cells a c).toArray, .int .i64 4]) w)
  held : ∀ {w : World}, Mem w F → Calls Try.prog 35 [.agg (z.cells a cap).toArray, .int .i64 1].toArray w (Ret (.tuple #[.int .i64 0, .int .i64 0]) w)
  may : ∀ {w : World}, Mem w F → Calls Try.prog 17 [.agg (z.cells a cap).toArray].toArray w (Ret (.bool false) w)
  least : ∀ {w : World}, Mem w F → Calls Try.prog 24 [.agg (z.cells a cap).toArray].toArray w (Ret (.int .i64 0) w)
  due : ∀ {w : World}, Mem w F → Calls Try.prog 26 [.agg (z.cells a cap).toArray, .int .i64 1099511627776].toArray w (Ret (.bool false) w)
theorem noC {z : Auc} {a : Option Addr} {cap : Nat} {F : Frag} (h : mayF z = false) (hs : Bids F a cap z.bids) : NoC z a cap F where
  win hF := by have := c_Winner z _ hF hs; rw [no_win h] at this; exact this
  top hF := by have := c_Top z _ hF hs; rw [no_top h] at this; exact this
  take hF := by
    have := c_Take z Bid.zero _ hF hs
    rw [no_take h] at this
    refine this.mono fun e w' => ?_
    rintro ⟨v, M, rfl, ⟨u, ⟨a, c, rfl, hO⟩, rfl⟩, hS⟩
    exact ⟨_, M, rfl, ⟨a, c, rfl⟩, hS⟩
  held hF := by have := c_Held z 1 _ hF hs; rw [no_held h] at this; exact this
  may hF := by have := c_May z _ hF hs; rw [h] at this; exact this
  least hF := by have := c_Least z _ hF hs; rw [show leastF z = 0 by unfold leastF; rw [if_neg (by simp [h])]] at this; exact this
  due hF := by have := c_Due z 1099511627776 _ hF hs; rw [show dueF z 1099511627776 = false by simp [dueF, h]] at this; exact this
theorem one_auc {z : Auc} {a : Option Addr} {cap b : Nat} {F : Frag} (hm : cb b (z.cells a cap) 24 ∈ F) (hs : Bids F a cap z.bids) : Aucs F (some ⟨b, 0, none⟩) 1 [z] (fun _ => (a, cap)) :=
  Aucs.blk (cap := 1) [z] (fun _ => (a, cap)) (by simpa [ael, List.getD] using hm) (Nat.le_refl _) (Nat.le_trans (Nat.le_refl 1) (by decide)) (fun j hj => by
    obtain rfl : j = 0 := by simpa using hj
    exact hs)
theorem no_mayall {z : Auc} {a : Option Addr} {cap b : Nat} {F : Frag} {w : World} (h : mayF z = false) (hF : Mem w F) (hm : cb b (z.cells a cap) 24 ∈ F) (hs : Bids F a cap z.bids) :
    Calls Try.prog 32 [.slice (some ⟨b, 0, none⟩) 1 1].toArray w (Ret (.bool false) w) := no_all h ▸ c_MayAll [z] _ w hF (one_auc hm hs)
theorem no_row {z : Auc} {a : Option Addr} {cap b : Nat} {F : Frag} {w : World} (h : mayF z = false) (hF : Mem w F) (hm : cb b (z.cells a cap) 24 ∈ F) (hs : Bids F a cap z.bids) :
    Calls Try.prog 29 [.slice (some ⟨b, 0, none⟩) 1 1, .int .i64 1099511627776].toArray w (Ret (.slice none 0 0) w) := c_RowNo [z] _ _ w hF (one_auc hm hs) (no_all h)
end Go.Proofs.Ytkcoemikglbomaa
