/- The law AuctionBids, walked. -/
import Derived.Test.YtkcoemikglbomaaA15
import Derived.Test.YtkcoemikglbomaaL1
set_option linter.unusedSimpArgs false
set_option linter.unusedVariables false
namespace Go.Proofs.Ytkcoemikglbomaa
open Go Go.Sk Go.RowKit
attribute [local irreducible] Go.Calls
theorem c_isT {a a' : Option Addr} {cap cap' : Nat} (x : Auc) {M F G : Frag} (w0 w : World) (H0 : St w0 (M ++ G) w) (hF : Mem w0 F) (hO : OwnB M a cap x.bids) (hn : x.bids.length ≤ 140737488355328) (hy : Bids (G ++ F) a' cap' x.bids) :
    Calls Try.prog 16 [.agg (x.cells a cap).toArray, .agg (x.cells a' cap').toArray].toArray w (RetF (IsP true G) w0) := sameF_self x ▸ c_is x x w0 w H0 hF hO hn hy
theorem takeF_len {x : Auc} {y : Bid} : (takeF x y).1.bids.length ≤ x.bids.length + 1 := by
  unfold takeF manF stakeF etakeF
  repeat' split
  all_goals simp [Auc.zero, Auc.put]
set_option maxRecDepth 20000 in
set_option maxHeartbeats 4000000 in
theorem c_BidsLaw {a : Option Addr} {cap : Nat} (x : Auc) (y : Bid) {F : Frag} (w0 : World) (hF : Mem w0 F) (hs : x.bids.length ≤ 100 → Bids F a cap x.bids) :
    Calls Try.prog 3 [.agg (x.cells a cap).toArray, .agg y.cells.toArray].toArray w0 (Ret (.bool true) w0) := by
  refine enter [.tmp 4] Try.func3 rfl Try.ntmps3 rfl rfl ?_
  have H := St.start w0
  repeat' (first
      | ((with_reducible apply OW.p sg); exact rfl; exact rfl; exact rfl; exact rfl)
      | ((with_reducible apply QW.p sg); exact rfl; exact rfl; exact rfl; exact rfl)
      | ((with_reducible apply OW.go); exact rfl)
      | ((with_reducible apply QW.go); exact rfl)
      | ((with_reducible apply OX.pure sg); exact rfl; exact rfl; exact rfl)
      | ((with_reducible apply QX.pure sg); exact rfl; exact rfl; exact rfl)
      | ((with_reducible apply OX.val); exact rfl; exact rfl; exact Yq.loadS sg rfl rfl H.mem (by first | exact List.Mem.head _ | exact List.Mem.tail _ (List.Mem.head _) | exact List.Mem.tail _ (List.Mem.tail _ (List.Mem.head _)) | exact List.Mem.tail _ (List.Mem.tail _ (List.Mem.tail _ (List.Mem.head _))) | exact List.Mem.tail _ (List.Mem.tail _ (List.Mem.tail _ (List.Mem.tail _ (List.Mem.head _)))) | (repeat (first | exact List.Mem.head _ | refine List.Mem.tail _ ?_))) rfl rfl)
      | ((with_reducible apply QX.val); exact rfl; exact rfl; exact Yq.loadS sg rfl rfl H.mem (by first | exact List.Mem.head _ | exact List.Mem.tail _ (List.Mem.head _) | exact List.Mem.tail _ (List.Mem.tail _ (List.Mem.head _)) | exact List.Mem.tail _ (List.Mem.tail _ (List.Mem.tail _ (List.Mem.head _))) | exact List.Mem.tail _ (List.Mem.tail _ (List.Mem.tail _ (List.Mem.tail _ (List.Mem.head _)))) | (repeat (first | exact List.Mem.head _ | refine List.Mem.tail _ ?_))) rfl rfl)
      | (refine OX.box H rfl rfl rfl rfl rfl ?_; intro b w H _)
      | (refine OX.alloc sg H rfl rfl rfl rfl rfl ?_; intro b w H _)
      | ((with_reducible apply OX.store sg H); exact rfl; exact rfl; exact rfl; exact rfl; exact rfl; exact rfl; (repeat (first | exact Up.here | apply Up.there)); exact rfl; exact rfl; exact rfl; exact rfl; intro w H)
      | ((with_reducible apply RW.nil); exact rfl)
      | ((with_reducible apply OW.gY); exact rfl; exact rfl; exact rfl)
      | ((with_reducible apply OW.gN); exact rfl; exact rfl; exact rfl; exact rfl; exact rfl)
      | ((with_reducible apply QW.gY); exact rfl; exact rfl; exact rfl)
      | ((with_reducible apply QW.gN); exact rfl; exact rfl; exact rfl; exact rfl; exact rfl)
      | ((with_reducible apply OW.gS); exact rfl; exact rfl; exact rfl; all_goals intro h)
      | ((with_reducible apply QW.gS); exact rfl; exact rfl; exact rfl; all_goals intro h)
      | with_reducible apply OW.app
      | with_reducible apply OW.app0
      | with_reducible apply QW.app
      | with_reducible apply QW.app0
      | with_reducible apply OW.nil
      | ((with_reducible apply QW.nil); intro w hcl; replace H := H.ext hcl; clear hcl)
      | ((with_reducible apply RW.one); exact rfl; decide +kernel)
      | with_reducible apply thn_n
      | with_reducible apply CW.seq
      | with_reducible apply CW.region
      | ((with_reducible apply CW.regionD mixed); decide +kernel)
      | with_reducible apply CW.block
      | with_reducible apply CW.ret
      | with_reducible apply CW.exit
      | with_reducible apply CW.skip
      | with_reducible apply thn_r
      | with_reducible apply thn_e
      | with_reducible apply blk_n
      | with_reducible apply blk_r
      | ((with_reducible apply blk_e1); exact rfl)
      | ((with_reducible apply blk_e0); exact rfl)
      | ((with_reducible apply CW.condT); exact rfl)
      | ((with_reducible apply CW.condF); exact rfl))
  refine CW.cond rfl (fun h => ?_) (fun h => ?_)
  · repeat' (first
      | ((with_reducible apply OW.p sg); exact rfl; exact rfl; exact rfl; exact rfl)
      | ((with_reducible apply QW.p sg); exact rfl; exact rfl; exact rfl; exact rfl)
      | ((with_reducible apply OW.go); exact rfl)
      | ((with_reducible apply QW.go); exact rfl)
      | ((with_reducible apply OX.pure sg); exact rfl; exact rfl; exact rfl)
      | ((with_reducible apply QX.pure sg); exact rfl; exact rfl; exact rfl)
      | ((with_reducible apply OX.val); exact rfl; exact rfl; exact Yq.loadS sg rfl rfl H.mem (by first | exact List.Mem.head _ | exact List.Mem.tail _ (List.Mem.head _) | exact List.Mem.tail _ (List.Mem.tail _ (List.Mem.head _)) | exact List.Mem.tail _ (List.Mem.tail _ (List.Mem.tail _ (List.Mem.head _))) | exact List.Mem.tail _ (List.Mem.tail _ (List.Mem.tail _ (List.Mem.tail _ (List.Mem.head _)))) | (repeat (first | exact List.Mem.head _ | refine List.Mem.tail _ ?_))) rfl rfl)
      | ((with_reducible apply QX.val); exact rfl; exact rfl; exact Yq.loadS sg rfl rfl H.mem (by first | exact List.Mem.head _ | exact List.Mem.tail _ (List.Mem.head _) | exact List.Mem.tail _ (List.Mem.tail _ (List.Mem.head _)) | exact List.Mem.tail _ (List.Mem.tail _ (List.Mem.tail _ (List.Mem.head _))) | exact List.Mem.tail _ (List.Mem.tail _ (List.Mem.tail _ (List.Mem.tail _ (List.Mem.head _)))) | (repeat (first | exact List.Mem.head _ | refine List.Mem.tail _ ?_))) rfl rfl)
      | (refine OX.box H rfl rfl rfl rfl rfl ?_; intro b w H _)
      | (refine OX.alloc sg H rfl rfl rfl rfl rfl ?_; intro b w H _)
      | ((with_reducible apply OX.store sg H); exact rfl; exact rfl; exact rfl; exact rfl; exact rfl; exact rfl; (repeat (first | exact Up.here | apply Up.there)); exact rfl; exact rfl; exact rfl; exact rfl; intro w H)
      | ((with_reducible apply RW.nil); exact rfl)
      | ((with_reducible apply OX.call); exact rfl; exact rfl; exact En.fn ent12 rfl rfl; exact c_awake _; intro w hcl; replace H := H.ext hcl; clear hcl)
      | ((with_reducible apply QX.call); exact rfl; exact rfl; exact En.fn ent12 rfl rfl; exact (fun _ hcl => c_awake _))
      | ((with_reducible apply OW.gY); exact rfl; exact rfl; exact rfl)
      | ((with_reducible apply OW.gN); exact rfl; exact rfl; exact rfl; exact rfl; exact rfl)
      | ((with_reducible apply QW.gY); exact rfl; exact rfl; exact rfl)
      | ((with_reducible apply QW.gN); exact rfl; exact rfl; exact rfl; exact rfl; exact rfl)
      | ((with_reducible apply OW.gS); exact rfl; exact rfl; exact rfl; all_goals intro h)
      | ((with_reducible apply QW.gS); exact rfl; exact rfl; exact rfl; all_goals intro h)
      | with_reducible apply OW.app
      | with_reducible apply OW.app0
      | with_reducible apply QW.app
      | with_reducible apply QW.app0
      | with_reducible apply OW.nil
      | ((with_reducible apply QW.nil); intro w hcl; replace H := H.ext hcl; clear hcl)
      | ((with_reducible apply RW.one); exact rfl; decide +kernel)
      | with_reducible apply thn_n
      | with_reducible apply CW.seq
      | with_reducible apply CW.region
      | ((with_reducible apply CW.regionD mixed); decide +kernel)
      | with_reducible apply CW.block
      | with_reducible apply CW.ret
      | with_reducible apply CW.exit
      | with_reducible apply CW.skip
      | with_reducible apply thn_r
      | with_reducible apply thn_e
      | with_reducible apply blk_n
      | with_reducible apply blk_r
      | ((with_reducible apply blk_e1); exact rfl)
      | ((with_reducible apply blk_e0); exact rfl)
      | ((with_reducible apply CW.condT); exact rfl)
      | ((with_reducible apply CW.condF); exact rfl))
    exact ret1 rfl H.cl rfl
  have hlen : x.bids.length ≤ 100 := by have := of_decide_eq_false h; omega
  have hs0 := hs hlen
  clear hs h
  obtain ⟨c, e, ht⟩ : ∃ W s, takeF x y = (W, s) := ⟨_, _, rfl⟩
  have hcl : c.bids.length ≤ 140737488355328 := by have := takeF_len (x := x) (y := y); rw [ht] at this; simp only at this; omega
  have rtake : ∀ {w : World}, Mem w F → Calls Try.prog 14 [.agg (x.cells a cap).toArray, .agg y.cells.toArray].toArray w (RetF (fun M v => ∃ u, OwnA c M u ∧ v = .tuple #[u, .int .i64 e]) w) := fun hF => by
    have := c_RTake x y _ hF hs0 (by omega)
    unfold TakeP at this
    rw [ht] at this
    exact this
  have take : ∀ {F : Frag} {a : Option Addr} {cap : Nat} {w : World}, Mem w F → Bids F a cap x.bids → Calls Try.prog 15 [.agg (x.cells a cap).toArray, .agg y.cells.toArray].toArray w (RetF (fun M v => ∃ u, OwnA c M u ∧ v = .tuple #[u, .int .i64 e]) w) := fun hF hs => by
    have := c_Take x y _ hF hs
    rw [ht] at this
    exact this
  repeat' (first
      | ((with_reducible apply OW.p sg); exact rfl; exact rfl; exact rfl; exact rfl)
      | ((with_reducible apply QW.p sg); exact rfl; exact rfl; exact rfl; exact rfl)
      | ((with_reducible apply OW.go); exact rfl)
      | ((with_reducible apply QW.go); exact rfl)
      | ((with_reducible apply OX.pure sg); exact rfl; exact rfl; exact rfl)
      | ((with_reducible apply QX.pure sg); exact rfl; exact rfl; exact rfl)
      | ((with_reducible apply OX.val); exact rfl; exact rfl; exact Yq.loadS sg rfl rfl H.mem (by first | exact List.Mem.head _ | exact List.Mem.tail _ (List.Mem.head _) | exact List.Mem.tail _ (List.Mem.tail _ (List.Mem.head _)) | exact List.Mem.tail _ (List.Mem.tail _ (List.Mem.tail _ (List.Mem.head _))) | exact List.Mem.tail _ (List.Mem.tail _ (List.Mem.tail _ (List.Mem.tail _ (List.Mem.head _)))) | (repeat (first | exact List.Mem.head _ | refine List.Mem.tail _ ?_))) rfl rfl)
      | ((with_reducible apply QX.val); exact rfl; exact rfl; exact Yq.loadS sg rfl rfl H.mem (by first | exact List.Mem.head _ | exact List.Mem.tail _ (List.Mem.head _) | exact List.Mem.tail _ (List.Mem.tail _ (List.Mem.head _)) | exact List.Mem.tail _ (List.Mem.tail _ (List.Mem.tail _ (List.Mem.head _))) | exact List.Mem.tail _ (List.Mem.tail _ (List.Mem.tail _ (List.Mem.tail _ (List.Mem.head _)))) | (repeat (first | exact List.Mem.head _ | refine List.Mem.tail _ ?_))) rfl rfl)
      | (refine OX.box H rfl rfl rfl rfl rfl ?_; intro b w H _)
      | (refine OX.alloc sg H rfl rfl rfl rfl rfl ?_; intro b w H _)
      | ((with_reducible apply OX.store sg H); exact rfl; exact rfl; exact rfl; exact rfl; exact rfl; exact rfl; (repeat (first | exact Up.here | apply Up.there)); exact rfl; exact rfl; exact rfl; exact rfl; intro w H)
      | ((with_reducible apply RW.nil); exact rfl)
      | ((with_reducible apply OX.callF); exact rfl; exact rfl; exact En.fn ent13 rfl rfl; exact c_Own x _ (H.memF hF) hs0 (by omega); intro v M0 w hR hS; replace H := H.addR hS; clear hS; try simp only [List.cons_append, List.nil_append] at H; obtain ⟨a0, cap0, rfl, hO0⟩ := hR)
      | ((with_reducible apply OX.callF); exact rfl; exact rfl; exact En.fn ent14 rfl rfl; exact rtake (H.memF hF); intro v M1 w hR hS; replace H := H.addR hS; clear hS; try simp only [List.cons_append, List.nil_append] at H; obtain ⟨u, ⟨a1, cap1, rfl, hO1⟩, rfl⟩ := hR)
      | ((with_reducible apply OW.gY); exact rfl; exact rfl; exact rfl)
      | ((with_reducible apply OW.gN); exact rfl; exact rfl; exact rfl; exact rfl; exact rfl)
      | ((with_reducible apply QW.gY); exact rfl; exact rfl; exact rfl)
      | ((with_reducible apply QW.gN); exact rfl; exact rfl; exact rfl; exact rfl; exact rfl)
      | ((with_reducible apply OW.gS); exact rfl; exact rfl; exact rfl; all_goals intro h)
      | ((with_reducible apply QW.gS); exact rfl; exact rfl; exact rfl; all_goals intro h)
      | with_reducible apply OW.app
      | with_reducible apply OW.app0
      | with_reducible apply QW.app
      | with_reducible apply QW.app0
      | with_reducible apply OW.nil
      | ((with_reducible apply QW.nil); intro w hcl; replace H := H.ext hcl; clear hcl)
      | ((with_reducible apply RW.one); exact rfl; decide +kernel)
      | with_reducible apply thn_n
      | with_reducible apply CW.seq
      | with_reducible apply CW.region
      | ((with_reducible apply CW.regionD mixed); decide +kernel)
      | with_reducible apply CW.block
      | with_reducible apply CW.ret
      | with_reducible apply CW.exit
      | with_reducible apply CW.skip
      | with_reducible apply thn_r
      | with_reducible apply thn_e
      | with_reducible apply blk_n
      | with_reducible apply blk_r
      | ((with_reducible apply blk_e1); exact rfl)
      | ((with_reducible apply blk_e0); exact rfl)
      | ((with_reducible apply CW.condT); exact rfl)
      | ((with_reducible apply CW.condF); exact rfl))
  refine CW.loopI [(4, 4), (8, 10), (24, 42)] (fun k : Nat => [(8, .int .i64 (k : Int))])
    (fun k w => k ≤ 2 ∧ St w0 (cb _ (c.cells a1 cap1) 24 :: cb _ (x.cells a0 cap0) 24 :: cb _ y.cells 26 :: cb _ (x.cells a cap) 24 :: (M0 ++ M1)) w) (fun k => 2 - k) 0
    ⟨rfl, trivial⟩ ⟨Nat.zero_le _, H⟩ ?_
  clear H
  rintro k g w ⟨hk, H⟩
  repeat' (first
      | ((with_reducible apply OW.p sg); exact rfl; exact rfl; exact rfl; exact rfl)
      | ((with_reducible apply QW.p sg); exact rfl; exact rfl; exact rfl; exact rfl)
      | ((with_reducible apply OW.go); exact rfl)
      | ((with_reducible apply QW.go); exact rfl)
      | ((with_reducible apply OX.pure sg); exact rfl; exact rfl; exact rfl)
      | ((with_reducible apply QX.pure sg); exact rfl; exact rfl; exact rfl)
      | ((with_reducible apply OX.val); exact rfl; exact rfl; exact Yq.loadS sg rfl rfl H.mem (by first | exact List.Mem.head _ | exact List.Mem.tail _ (List.Mem.head _) | exact List.Mem.tail _ (List.Mem.tail _ (List.Mem.head _)) | exact List.Mem.tail _ (List.Mem.tail _ (List.Mem.tail _ (List.Mem.head _))) | exact List.Mem.tail _ (List.Mem.tail _ (List.Mem.tail _ (List.Mem.tail _ (List.Mem.head _)))) | (repeat (first | exact List.Mem.head _ | refine List.Mem.tail _ ?_))) rfl rfl)
      | ((with_reducible apply QX.val); exact rfl; exact rfl; exact Yq.loadS sg rfl rfl H.mem (by first | exact List.Mem.head _ | exact List.Mem.tail _ (List.Mem.head _) | exact List.Mem.tail _ (List.Mem.tail _ (List.Mem.head _)) | exact List.Mem.tail _ (List.Mem.tail _ (List.Mem.tail _ (List.Mem.head _))) | exact List.Mem.tail _ (List.Mem.tail _ (List.Mem.tail _ (List.Mem.tail _ (List.Mem.head _)))) | (repeat (first | exact List.Mem.head _ | refine List.Mem.tail _ ?_))) rfl rfl)
      | (refine OX.box H rfl rfl rfl rfl rfl ?_; intro b w H _)
      | (refine OX.alloc sg H rfl rfl rfl rfl rfl ?_; intro b w H _)
      | ((with_reducible apply OX.store sg H); exact rfl; exact rfl; exact rfl; exact rfl; exact rfl; exact rfl; (repeat (first | exact Up.here | apply Up.there)); exact rfl; exact rfl; exact rfl; exact rfl; intro w H)
      | ((with_reducible apply RW.nil); exact rfl)
      | ((with_reducible apply OW.gY); exact rfl; exact rfl; exact rfl)
      | ((with_reducible apply OW.gN); exact rfl; exact rfl; exact rfl; exact rfl; exact rfl)
      | ((with_reducible apply QW.gY); exact rfl; exact rfl; exact rfl)
      | ((with_reducible apply QW.gN); exact rfl; exact rfl; exact rfl; exact rfl; exact rfl)
      | ((with_reducible apply OW.gS); exact rfl; exact rfl; exact rfl; all_goals intro h)
      | ((with_reducible apply QW.gS); exact rfl; exact rfl; exact rfl; all_goals intro h)
      | with_reducible apply OW.app
      | with_reducible apply OW.app0
      | with_reducible apply QW.app
      | with_reducible apply QW.app0
      | with_reducible apply OW.nil
      | ((with_reducible apply QW.nil); intro w hcl; replace H := H.ext hcl; clear hcl)
      | ((with_reducible apply RW.one); exact rfl; decide +kernel)
      | with_reducible apply thn_n
      | with_reducible apply CW.seq
      | with_reducible apply CW.region
      | ((with_reducible apply CW.regionD mixed); decide +kernel)
      | with_reducible apply CW.block
      | with_reducible apply CW.ret
      | with_reducible apply CW.exit
      | with_reducible apply CW.skip
      | with_reducible apply thn_r
      | with_reducible apply thn_e
      | with_reducible apply blk_n
      | with_reducible apply blk_r
      | ((with_reducible apply blk_e1); exact rfl)
      | ((with_reducible apply blk_e0); exact rfl)
      | ((with_reducible apply CW.condT); exact rfl)
      | ((with_reducible apply CW.condF); exact rfl))
  refine CW.cond rfl (fun h2 => ?_) (fun h2 => ?_)
  · have hlt : k < 2 := by have := of_decide_eq_true h2; omega
    repeat' (first
        | ((with_reducible apply OW.p sg); exact rfl; exact rfl; exact rfl; exact rfl)
        | ((with_reducible apply QW.p sg); exact rfl; exact rfl; exact rfl; exact rfl)
        | ((with_reducible apply OW.go); exact rfl)
        | ((with_reducible apply QW.go); exact rfl)
        | ((with_reducible apply OX.pure sg); exact rfl; exact rfl; exact rfl)
        | ((with_reducible apply QX.pure sg); exact rfl; exact rfl; exact rfl)
        | ((with_reducible apply OX.val); exact rfl; exact rfl; exact Yq.loadS sg rfl rfl H.mem (by first | exact List.Mem.head _ | exact List.Mem.tail _ (List.Mem.head _) | exact List.Mem.tail _ (List.Mem.tail _ (List.Mem.head _)) | exact List.Mem.tail _ (List.Mem.tail _ (List.Mem.tail _ (List.Mem.head _))) | exact List.Mem.tail _ (List.Mem.tail _ (List.Mem.tail _ (List.Mem.tail _ (List.Mem.head _)))) | (repeat (first | exact List.Mem.head _ | refine List.Mem.tail _ ?_))) rfl rfl)
        | ((with_reducible apply QX.val); exact rfl; exact rfl; exact Yq.loadS sg rfl rfl H.mem (by first | exact List.Mem.head _ | exact List.Mem.tail _ (List.Mem.head _) | exact List.Mem.tail _ (List.Mem.tail _ (List.Mem.head _)) | exact List.Mem.tail _ (List.Mem.tail _ (List.Mem.tail _ (List.Mem.head _))) | exact List.Mem.tail _ (List.Mem.tail _ (List.Mem.tail _ (List.Mem.tail _ (List.Mem.head _)))) | (repeat (first | exact List.Mem.head _ | refine List.Mem.tail _ ?_))) rfl rfl)
        | (refine OX.box H rfl rfl rfl rfl rfl ?_; intro b w H _)
        | (refine OX.alloc sg H rfl rfl rfl rfl rfl ?_; intro b w H _)
        | ((with_reducible apply OX.store sg H); exact rfl; exact rfl; exact rfl; exact rfl; exact rfl; exact rfl; (repeat (first | exact Up.here | apply Up.there)); exact rfl; exact rfl; exact rfl; exact rfl; intro w H)
        | ((with_reducible apply RW.nil); exact rfl)
        | ((with_reducible apply OX.callF); exact rfl; exact rfl; exact En.fn ent15 rfl rfl; exact take H.mem (hO0.bids (by intro p hp; repeat (first | exact hp | exact List.mem_append_left _ hp | apply List.mem_cons_of_mem)) (by omega)); intro v M2 w hR hS; replace H := H.addR hS; clear hS; try simp only [List.cons_append, List.nil_append] at H; obtain ⟨u, ⟨a2, cap2, rfl, hO2⟩, rfl⟩ := hR)
        | ((with_reducible apply OX.callM); exact rfl; exact rfl; exact En.fn ent16 rfl rfl; exact (c_isT c w0 _ (H.perm (List.perm_append_comm (l₁ := _ :: _ :: _ :: _ :: _ :: (M0 ++ M1)) (l₂ := M2))) hF hO2 hcl (hO1.bids (by intro p hp; exact List.mem_append_left _ (by repeat (first | exact hp | exact List.mem_append_right _ hp | exact List.mem_append_left _ hp | exact List.mem_append_left _ (List.mem_append_right _ hp) | exact List.mem_append_left _ (List.mem_append_left _ hp) | apply List.mem_cons_of_mem))) hcl)); intro v Mx w hR H; obtain ⟨rfl, M', rfl⟩ := hR; replace H := H.sub (List.sublist_append_right M' _))
        | ((with_reducible apply OW.gY); exact rfl; exact rfl; exact rfl)
        | ((with_reducible apply OW.gN); exact rfl; exact rfl; exact rfl; exact rfl; exact rfl)
        | ((with_reducible apply QW.gY); exact rfl; exact rfl; exact rfl)
        | ((with_reducible apply QW.gN); exact rfl; exact rfl; exact rfl; exact rfl; exact rfl)
        | ((with_reducible apply OW.gS); exact rfl; exact rfl; exact rfl; all_goals (intro h; try (exfalso; first | (simp at h; done))))
        | ((with_reducible apply QW.gS); exact rfl; exact rfl; exact rfl; all_goals (intro h; try (exfalso; first | (simp at h; done))))
        | with_reducible apply OW.app
        | with_reducible apply OW.app0
        | with_reducible apply QW.app
        | with_reducible apply QW.app0
        | with_reducible apply OW.nil
        | ((with_reducible apply QW.nil); intro w hcl; replace H := H.ext hcl; clear hcl)
        | ((with_reducible apply RW.one); exact rfl; decide +kernel)
        | with_reducible apply thn_n
        | with_reducible apply CW.seq
        | with_reducible apply CW.region
        | ((with_reducible apply CW.regionD mixed); decide +kernel)
        | with_reducible apply CW.block
        | with_reducible apply CW.ret
        | with_reducible apply CW.exit
        | with_reducible apply CW.skip
        | with_reducible apply thn_r
        | with_reducible apply thn_e
        | with_reducible apply blk_n
        | with_reducible apply blk_r
        | ((with_reducible apply blk_e1); exact rfl)
        | ((with_reducible apply blk_e0); exact rfl)
        | ((with_reducible apply CW.condT); exact rfl)
        | ((with_reducible apply CW.condF); exact rfl))
    exact Again.mk (k + 1) rfl ⟨vsucc (by omega), trivial⟩ ⟨hlt, H.sub (by repeat (first | exact List.Sublist.refl _ | exact List.nil_sublist _ | apply List.Sublist.cons_cons | apply List.Sublist.cons))⟩ (by omega)
  · repeat' (first
      | ((with_reducible apply OW.p sg); exact rfl; exact rfl; exact rfl; exact rfl)
      | ((with_reducible apply QW.p sg); exact rfl; exact rfl; exact rfl; exact rfl)
      | ((with_reducible apply OW.go); exact rfl)
      | ((with_reducible apply QW.go); exact rfl)
      | ((with_reducible apply OX.pure sg); exact rfl; exact rfl; exact rfl)
      | ((with_reducible apply QX.pure sg); exact rfl; exact rfl; exact rfl)
      | ((with_reducible apply OX.val); exact rfl; exact rfl; exact Yq.loadS sg rfl rfl H.mem (by first | exact List.Mem.head _ | exact List.Mem.tail _ (List.Mem.head _) | exact List.Mem.tail _ (List.Mem.tail _ (List.Mem.head _)) | exact List.Mem.tail _ (List.Mem.tail _ (List.Mem.tail _ (List.Mem.head _))) | exact List.Mem.tail _ (List.Mem.tail _ (List.Mem.tail _ (List.Mem.tail _ (List.Mem.head _)))) | (repeat (first | exact List.Mem.head _ | refine List.Mem.tail _ ?_))) rfl rfl)
      | ((with_reducible apply QX.val); exact rfl; exact rfl; exact Yq.loadS sg rfl rfl H.mem (by first | exact List.Mem.head _ | exact List.Mem.tail _ (List.Mem.head _) | exact List.Mem.tail _ (List.Mem.tail _ (List.Mem.head _)) | exact List.Mem.tail _ (List.Mem.tail _ (List.Mem.tail _ (List.Mem.head _))) | exact List.Mem.tail _ (List.Mem.tail _ (List.Mem.tail _ (List.Mem.tail _ (List.Mem.head _)))) | (repeat (first | exact List.Mem.head _ | refine List.Mem.tail _ ?_))) rfl rfl)
      | (refine OX.box H rfl rfl rfl rfl rfl ?_; intro b w H _)
      | (refine OX.alloc sg H rfl rfl rfl rfl rfl ?_; intro b w H _)
      | ((with_reducible apply OX.store sg H); exact rfl; exact rfl; exact rfl; exact rfl; exact rfl; exact rfl; (repeat (first | exact Up.here | apply Up.there)); exact rfl; exact rfl; exact rfl; exact rfl; intro w H)
      | ((with_reducible apply RW.nil); exact rfl)
      | ((with_reducible apply OX.call); exact rfl; exact rfl; exact En.fn ent12 rfl rfl; exact c_awake _; intro w hcl; replace H := H.ext hcl; clear hcl)
      | ((with_reducible apply QX.call); exact rfl; exact rfl; exact En.fn ent12 rfl rfl; exact (fun _ hcl => c_awake _))
      | ((with_reducible apply OX.callM); exact rfl; exact rfl; exact En.fn ent16 rfl rfl; exact (c_isT x w0 _ (H.perm (List.perm_append_comm_assoc (_ :: _ :: _ :: _ :: []) M0 M1)) hF hO0 (by omega) (hs0.mono (List.subset_append_right _ _))); intro v Mx w hR H; obtain ⟨rfl, M', rfl⟩ := hR; replace H := H.sub (List.sublist_append_right M' _))
      | ((with_reducible apply OW.gY); exact rfl; exact rfl; exact rfl)
      | ((with_reducible apply OW.gN); exact rfl; exact rfl; exact rfl; exact rfl; exact rfl)
      | ((with_reducible apply QW.gY); exact rfl; exact rfl; exact rfl)
      | ((with_reducible apply QW.gN); exact rfl; exact rfl; exact rfl; exact rfl; exact rfl)
      | ((with_reducible apply OW.gS); exact rfl; exact rfl; exact rfl; all_goals intro h)
      | ((with_reducible apply QW.gS); exact rfl; exact rfl; exact rfl; all_goals intro h)
      | with_reducible apply OW.app
      | with_reducible apply OW.app0
      | with_reducible apply QW.app
      | with_reducible apply QW.app0
      | with_reducible apply OW.nil
      | ((with_reducible apply QW.nil); intro w hcl; replace H := H.ext hcl; clear hcl)
      | ((with_reducible apply RW.one); exact rfl; decide +kernel)
      | with_reducible apply thn_n
      | with_reducible apply CW.seq
      | with_reducible apply CW.region
      | ((with_reducible apply CW.regionD mixed); decide +kernel)
      | with_reducible apply CW.block
      | with_reducible apply CW.ret
      | with_reducible apply CW.exit
      | with_reducible apply CW.skip
      | with_reducible apply thn_r
      | with_reducible apply thn_e
      | with_reducible apply blk_n
      | with_reducible apply blk_r
      | ((with_reducible apply blk_e1); exact rfl)
      | ((with_reducible apply blk_e0); exact rfl)
      | ((with_reducible apply CW.condT); exact rfl)
      | ((with_reducible apply CW.condF); exact rfl))
    exact ret1 rfl H.cl rfl
end Go.Proofs.Ytkcoemikglbomaa
