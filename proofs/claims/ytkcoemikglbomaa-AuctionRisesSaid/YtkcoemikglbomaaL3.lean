/- The law AuctionRises, walked. -/
import Derived.Test.YtkcoemikglbomaaP2
import Derived.Test.YtkcoemikglbomaaL1
set_option linter.unusedSimpArgs false
set_option linter.unusedVariables false
namespace Go.Proofs.Ytkcoemikglbomaa
open Go Go.Sk Go.RowKit
attribute [local irreducible] Go.Calls
theorem mem_sub {w : World} {F G : Frag} (h : Mem w G) (hs : F ⊆ G) : Mem w F := fun p hp => h p (hs hp)
theorem top_at3 {a : Option Addr} {cap : Nat} (x : Auc) (W : Bid) (s : Bool) (hv : topF x = (W, s)) {F : Frag} {w0 : World} (hF : Mem w0 F) (hs : Bids F a cap x.bids) :
    Calls Try.prog 21 [.agg (x.cells a cap).toArray].toArray w0 (Ret (.tuple #[.agg W.cells.toArray, .bool s]) w0) := by
  have h := c_Top x w0 hF hs
  rw [hv] at h
  exact h
theorem may_at3 {a : Option Addr} {cap : Nat} (x : Auc) (s : Bool) (hv : mayF x = s) {F : Frag} {w0 : World} (hF : Mem w0 F) (hs : Bids F a cap x.bids) :
    Calls Try.prog 17 [.agg (x.cells a cap).toArray].toArray w0 (Ret (.bool s) w0) := hv ▸ c_May x w0 hF hs
theorem held_at {a : Option Addr} {cap : Nat} (x : Auc) (n p q : Int) (hv : heldF x n = (p, q)) {F : Frag} {w0 : World} (hF : Mem w0 F) (hs : Bids F a cap x.bids) :
    Calls Try.prog 35 [.agg (x.cells a cap).toArray, .int .i64 n].toArray w0 (Ret (.tuple #[.int .i64 p, .int .i64 q]) w0) := by
  have h := c_Held x n w0 hF hs
  rw [hv] at h
  exact h
theorem leasts {a : Option Addr} {cap : Nat} (x : Auc) (n : Int) (hv : leastF x = n) {F : Frag} {w0 : World} (hF : Mem w0 F) (hs : Bids F a cap x.bids) :
    Calls Try.prog 24 [.agg (x.cells a cap).toArray].toArray w0 (Ret (.int .i64 n) w0) := hv ▸ c_Least x w0 hF hs
theorem take_at {a : Option Addr} {cap : Nat} (x : Auc) (y : Bid) (c : Auc) (e : Int) (hv : takeF x y = (c, e)) {F : Frag} {w0 : World} (hF : Mem w0 F) (hs : Bids F a cap x.bids) :
    Calls Try.prog 15 [.agg (x.cells a cap).toArray, .agg y.cells.toArray].toArray w0 (RetF (fun M v => ∃ u, OwnA c M u ∧ v = .tuple #[u, .int .i64 e]) w0) := by
  have h := c_Take x y w0 hF hs
  rw [hv] at h
  exact h
set_option maxRecDepth 20000 in
set_option maxHeartbeats 4000000 in
theorem c_Rises {a : Option Addr} {cap : Nat} (x : Auc) (y : Bid) {F : Frag} (w0 : World) (hF : Mem w0 F) (hs : x.bids.length ≤ 100 → Bids F a cap x.bids) :
    Calls Try.prog 10 [.agg (x.cells a cap).toArray, .agg y.cells.toArray].toArray w0 (Ret (.bool true) w0) := by
  refine enter [.tmp 4] Try.func10 rfl Try.ntmps10 rfl rfl ?_
  have H := St.start w0
  repeat' (first
      | ((with_reducible apply OW.p sg); exact rfl; exact rfl; exact rfl; exact rfl)
      | ((with_reducible apply QW.p sg); exact rfl; exact rfl; exact rfl; exact rfl)
      | ((with_reducible apply OW.go); exact rfl)
      | ((with_reducible apply QW.go); exact rfl)
      | ((with_reducible apply OX.pure sg); exact rfl; exact rfl; exact rfl)
      | ((with_reducible apply QX.pure sg); exact rfl; exact rfl; exact rfl)
      | ((with_reducible apply OX.val); exact rfl; exact rfl; exact Yq.loadS sg rfl rfl H.mem (by first | exact List.Mem.head _ | exact List.Mem.tail _ (List.Mem.head _) | exact List.Mem.tail _ (List.Mem.tail _ (List.Mem.head _)) | exact List.Mem.tail _ (List.Mem.tail _ (List.Mem.tail _ (List.Mem.head _))) | exact List.Mem.tail _ (List.Mem.tail _ (List.Mem.tail _ (List.Mem.tail _ (List.Mem.head _)))) | (repeat (first | exact List.Mem.head _ | refine List.Mem.tail _ ?_))) rfl rfl)
      | ((with_reducible apply QX.val); exact rfl; exact rfl; exact Yq.loadS sg rfl rfl H.mem (by first | exact List.Mem.head _ | exact List.Mem.tail _ (List.Mem.head _) | exact List.Mem.tail _ (List.Mem.tail _ (List.Mem.head _)) | exact List.Mem.tail _ (List.Mem.tail _ (List.Mem.tail _ (List.Mem.head _))) | exact List.Mem.tail _ (List.Mem.tail _ (List.Mem.tail _ (List.Mem.tail _ (List.Mem.head _)))) | (repeat (first | exact List.Mem.head _ | refine List.Mem.tail _ ?_))) rfl rfl)
      | (refine OX.box H rfl rfl rfl rfl rfl ?_; intro b w H _)
      | (refine OX.alloc sg H rfl rfl rfl rfl rfl ?_; intro b w H _)
      | ((with_reducible apply OX.store sg H); exact rfl; exact rfl; exact rfl; exact rfl; exact rfl; exact rfl; (repeat (first | exact Up.here | apply Up.there)); exact rfl; exact rfl; exact rfl; exact rfl; intro w H)
      | ((with_reducible apply RW.nil); exact rfl)
      | ((with_reducible apply OX.call); exact rfl; exact rfl; exact En.fn ent12 rfl rfl; exact c_awake _; intro w hcl; replace H := H.ext hcl; clear hcl)
      | ((with_reducible apply QX.call); exact rfl; exact rfl; exact En.fn ent12 rfl rfl; exact (fun _ hcl => c_awake _))
      | ((with_reducible apply OW.gY); exact rfl; exact rfl; exact rfl)
      | ((with_reducible apply OW.gN); exact rfl; exact rfl; exact rfl; exact rfl; exact rfl)
      | ((with_reducible apply QW.gY); exact rfl; exact rfl; exact rfl)
      | ((with_reducible apply QW.gN); exact rfl; exact rfl; exact rfl; exact rfl; exact rfl)
      | ((with_reducible apply OW.gS); exact rfl; exact rfl; exact rfl; all_goals intro h)
      | ((with_reducible apply QW.gS); exact rfl; exact rfl; exact rfl; all_goals intro h)
      | with_reducible apply OW.app
      | with_reducible apply OW.app0
      | with_reducible apply QW.app
      | with_reducible apply QW.app0
      | with_reducible apply OW.nil
      | ((with_reducible apply QW.nil); intro w hcl; replace H := H.ext hcl; clear hcl)
      | ((with_reducible apply RW.one); exact rfl; decide +kernel)
      | with_reducible apply thn_n
      | with_reducible apply CW.seq
      | with_reducible apply CW.region
      | ((with_reducible apply CW.regionD mixed); decide +kernel)
      | with_reducible apply CW.block
      | with_reducible apply CW.ret
      | with_reducible apply CW.exit
      | with_reducible apply CW.skip
      | with_reducible apply thn_r
      | with_reducible apply thn_e
      | with_reducible apply blk_n
      | with_reducible apply blk_r
      | ((with_reducible apply blk_e1); exact rfl)
      | ((with_reducible apply blk_e0); exact rfl)
      | ((with_reducible apply CW.condT); exact rfl)
      | ((with_reducible apply CW.condF); exact rfl))
  · exact ret1 rfl H.cl rfl
  have hlen : x.bids.length ≤ 100 := by have := of_decide_eq_false h; omega
  have hs0 := hs hlen
  clear hs
  obtain ⟨c, e, ht⟩ : ∃ W s, takeF x y = (W, s) := ⟨_, _, rfl⟩
  obtain ⟨least, hl⟩ : ∃ n, leastF x = n := ⟨_, rfl⟩
  repeat' (first
      | ((with_reducible apply OW.p sg); exact rfl; exact rfl; exact rfl; exact rfl)
      | ((with_reducible apply QW.p sg); exact rfl; exact rfl; exact rfl; exact rfl)
      | ((with_reducible apply OW.go); exact rfl)
      | ((with_reducible apply QW.go); exact rfl)
      | ((with_reducible apply OX.pure sg); exact rfl; exact rfl; exact rfl)
      | ((with_reducible apply QX.pure sg); exact rfl; exact rfl; exact rfl)
      | ((with_reducible apply OX.val); exact rfl; exact rfl; exact Yq.loadS sg rfl rfl H.mem (by first | exact List.Mem.head _ | exact List.Mem.tail _ (List.Mem.head _) | exact List.Mem.tail _ (List.Mem.tail _ (List.Mem.head _)) | exact List.Mem.tail _ (List.Mem.tail _ (List.Mem.tail _ (List.Mem.head _))) | exact List.Mem.tail _ (List.Mem.tail _ (List.Mem.tail _ (List.Mem.tail _ (List.Mem.head _)))) | (repeat (first | exact List.Mem.head _ | refine List.Mem.tail _ ?_))) rfl rfl)
      | ((with_reducible apply QX.val); exact rfl; exact rfl; exact Yq.loadS sg rfl rfl H.mem (by first | exact List.Mem.head _ | exact List.Mem.tail _ (List.Mem.head _) | exact List.Mem.tail _ (List.Mem.tail _ (List.Mem.head _)) | exact List.Mem.tail _ (List.Mem.tail _ (List.Mem.tail _ (List.Mem.head _))) | exact List.Mem.tail _ (List.Mem.tail _ (List.Mem.tail _ (List.Mem.tail _ (List.Mem.head _)))) | (repeat (first | exact List.Mem.head _ | refine List.Mem.tail _ ?_))) rfl rfl)
      | (refine OX.box H rfl rfl rfl rfl rfl ?_; intro b w H _)
      | (refine OX.alloc sg H rfl rfl rfl rfl rfl ?_; intro b w H _)
      | ((with_reducible apply OX.store sg H); exact rfl; exact rfl; exact rfl; exact rfl; exact rfl; exact rfl; (repeat (first | exact Up.here | apply Up.there)); exact rfl; exact rfl; exact rfl; exact rfl; intro w H)
      | ((with_reducible apply RW.nil); exact rfl)
      | ((with_reducible apply OX.call); exact rfl; exact rfl; exact En.fn ent24 rfl rfl; exact leasts x least hl (H.memF hF) hs0; intro w hcl; replace H := H.ext hcl; clear hcl)
      | ((with_reducible apply QX.call); exact rfl; exact rfl; exact En.fn ent24 rfl rfl; exact (fun _ hcl => leasts x least hl ((H.ext hcl).memF hF) hs0))
      | ((with_reducible apply OX.callF); exact rfl; exact rfl; exact En.fn ent15 rfl rfl; exact take_at x y c e ht (H.memF hF) hs0; intro v M w hR hS; replace H := H.addR hS; clear hS; try simp only [List.cons_append, List.nil_append] at H; obtain ⟨u, ⟨a', cap', rfl, hO⟩, rfl⟩ := hR)
      | ((with_reducible apply OW.gY); exact rfl; exact rfl; exact rfl)
      | ((with_reducible apply OW.gN); exact rfl; exact rfl; exact rfl; exact rfl; exact rfl)
      | ((with_reducible apply QW.gY); exact rfl; exact rfl; exact rfl)
      | ((with_reducible apply QW.gN); exact rfl; exact rfl; exact rfl; exact rfl; exact rfl)
      | ((with_reducible apply OW.gS); exact rfl; exact rfl; exact rfl; all_goals intro h)
      | ((with_reducible apply QW.gS); exact rfl; exact rfl; exact rfl; all_goals intro h)
      | with_reducible apply OW.app
      | with_reducible apply OW.app0
      | with_reducible apply QW.app
      | with_reducible apply QW.app0
      | with_reducible apply OW.nil
      | ((with_reducible apply QW.nil); intro w hcl; replace H := H.ext hcl; clear hcl)
      | ((with_reducible apply RW.one); exact rfl; decide +kernel)
      | with_reducible apply thn_n
      | with_reducible apply CW.seq
      | with_reducible apply CW.region
      | ((with_reducible apply CW.regionD mixed); decide +kernel)
      | with_reducible apply CW.block
      | with_reducible apply CW.ret
      | with_reducible apply CW.exit
      | with_reducible apply CW.skip
      | with_reducible apply thn_r
      | with_reducible apply thn_e
      | with_reducible apply blk_n
      | with_reducible apply blk_r
      | ((with_reducible apply blk_e1); exact rfl)
      | ((with_reducible apply blk_e0); exact rfl)
      | ((with_reducible apply CW.condT); exact rfl)
      | ((with_reducible apply CW.condF); exact rfl))
  refine CW.cond rfl (fun he => ?_) (fun he => ?_)
  · obtain rfl : c = Auc.zero := by have := take_zero (x := x) (y := y) (by rw [ht]; simpa using he); rwa [ht] at this
    repeat' (first
        | ((with_reducible apply OW.p sg); exact rfl; exact rfl; exact rfl; exact rfl)
        | ((with_reducible apply QW.p sg); exact rfl; exact rfl; exact rfl; exact rfl)
        | ((with_reducible apply OW.go); exact rfl)
        | ((with_reducible apply QW.go); exact rfl)
        | ((with_reducible apply OX.pure sg); exact rfl; exact rfl; exact rfl)
        | ((with_reducible apply QX.pure sg); exact rfl; exact rfl; exact rfl)
        | ((with_reducible apply OX.val); exact rfl; exact rfl; exact Yq.loadS sg rfl rfl H.mem (by first | exact List.Mem.head _ | exact List.Mem.tail _ (List.Mem.head _) | exact List.Mem.tail _ (List.Mem.tail _ (List.Mem.head _)) | exact List.Mem.tail _ (List.Mem.tail _ (List.Mem.tail _ (List.Mem.head _))) | exact List.Mem.tail _ (List.Mem.tail _ (List.Mem.tail _ (List.Mem.tail _ (List.Mem.head _)))) | (repeat (first | exact List.Mem.head _ | refine List.Mem.tail _ ?_))) rfl rfl)
        | ((with_reducible apply QX.val); exact rfl; exact rfl; exact Yq.loadS sg rfl rfl H.mem (by first | exact List.Mem.head _ | exact List.Mem.tail _ (List.Mem.head _) | exact List.Mem.tail _ (List.Mem.tail _ (List.Mem.head _)) | exact List.Mem.tail _ (List.Mem.tail _ (List.Mem.tail _ (List.Mem.head _))) | exact List.Mem.tail _ (List.Mem.tail _ (List.Mem.tail _ (List.Mem.tail _ (List.Mem.head _)))) | (repeat (first | exact List.Mem.head _ | refine List.Mem.tail _ ?_))) rfl rfl)
        | (refine OX.box H rfl rfl rfl rfl rfl ?_; intro b w H _)
        | (refine OX.alloc sg H rfl rfl rfl rfl rfl ?_; intro b w H _)
        | ((with_reducible apply OX.store sg H); exact rfl; exact rfl; exact rfl; exact rfl; exact rfl; exact rfl; (repeat (first | exact Up.here | apply Up.there)); exact rfl; exact rfl; exact rfl; exact rfl; intro w H)
        | ((with_reducible apply RW.nil); exact rfl)
        | ((with_reducible apply OW.gY); exact rfl; exact rfl; exact rfl)
        | ((with_reducible apply OW.gN); exact rfl; exact rfl; exact rfl; exact rfl; exact rfl)
        | ((with_reducible apply QW.gY); exact rfl; exact rfl; exact rfl)
        | ((with_reducible apply QW.gN); exact rfl; exact rfl; exact rfl; exact rfl; exact rfl)
        | ((with_reducible apply OW.gS); exact rfl; exact rfl; exact rfl; all_goals (intro h; try (exfalso; first | (simp [Auc.zero] at h; done; done))))
        | ((with_reducible apply QW.gS); exact rfl; exact rfl; exact rfl; all_goals (intro h; try (exfalso; first | (simp [Auc.zero] at h; done; done))))
        | with_reducible apply OW.app
        | with_reducible apply OW.app0
        | with_reducible apply QW.app
        | with_reducible apply QW.app0
        | with_reducible apply OW.nil
        | ((with_reducible apply QW.nil); intro w hcl; replace H := H.ext hcl; clear hcl)
        | ((with_reducible apply RW.one); exact rfl; decide +kernel)
        | with_reducible apply thn_n
        | with_reducible apply CW.seq
        | with_reducible apply CW.region
        | ((with_reducible apply CW.regionD mixed); decide +kernel)
        | with_reducible apply CW.block
        | with_reducible apply CW.ret
        | with_reducible apply CW.exit
        | with_reducible apply CW.skip
        | with_reducible apply thn_r
        | with_reducible apply thn_e
        | with_reducible apply blk_n
        | with_reducible apply blk_r
        | ((with_reducible apply blk_e1); exact rfl)
        | ((with_reducible apply blk_e0); exact rfl)
        | ((with_reducible apply CW.condT); exact rfl)
        | ((with_reducible apply CW.condF); exact rfl)
        | ((with_reducible apply CW.cond); exact rfl; all_goals (intro h; try (exfalso; first | (simp [Auc.zero] at h; done; done)))))
    all_goals exact ret1 rfl H.cl rfl
  obtain rfl : e = 0 := by simpa using he
  have t := taken ht
  have hcl : c.bids.length ≤ 140737488355328 := by
    rcases Bool.eq_false_or_eq_true x.sealed with he | he
    · obtain ⟨rfl, h1, _⟩ := taken_sealed t he; simp [Auc.put]; omega
    · obtain ⟨rfl, h1⟩ := taken_eng t he; simp [Auc.put]
  have hc : ∀ F, M ⊆ F → Bids F a' cap' c.bids := fun F hM => hO.bids hM hcl
  obtain ⟨sq, hsq⟩ : ∃ sq, heldF c x.seller = (sq, x.qty) := ⟨_, Prod.ext rfl (taken_sold t)⟩
  obtain ⟨tp, htp⟩ : ∃ tp, topF c = (tp, true) := ⟨_, Prod.ext rfl (by rw [top_some (taken_may t)]; exact decide_eq_true (by have := taken_pos t; omega))⟩
  have g1 := taken_least t
  have g2 := taken_most t
  rw [hl] at g1
  rw [htp] at g2
  simp only at g2
  repeat' (first
      | ((with_reducible apply OW.p sg); exact rfl; exact rfl; exact rfl; exact rfl)
      | ((with_reducible apply QW.p sg); exact rfl; exact rfl; exact rfl; exact rfl)
      | ((with_reducible apply OW.go); exact rfl)
      | ((with_reducible apply QW.go); exact rfl)
      | ((with_reducible apply OX.pure sg); exact rfl; exact rfl; exact rfl)
      | ((with_reducible apply QX.pure sg); exact rfl; exact rfl; exact rfl)
      | ((with_reducible apply OX.val); exact rfl; exact rfl; exact Yq.loadS sg rfl rfl H.mem (by first | exact List.Mem.head _ | exact List.Mem.tail _ (List.Mem.head _) | exact List.Mem.tail _ (List.Mem.tail _ (List.Mem.head _)) | exact List.Mem.tail _ (List.Mem.tail _ (List.Mem.tail _ (List.Mem.head _))) | exact List.Mem.tail _ (List.Mem.tail _ (List.Mem.tail _ (List.Mem.tail _ (List.Mem.head _)))) | (repeat (first | exact List.Mem.head _ | refine List.Mem.tail _ ?_))) rfl rfl)
      | ((with_reducible apply QX.val); exact rfl; exact rfl; exact Yq.loadS sg rfl rfl H.mem (by first | exact List.Mem.head _ | exact List.Mem.tail _ (List.Mem.head _) | exact List.Mem.tail _ (List.Mem.tail _ (List.Mem.head _)) | exact List.Mem.tail _ (List.Mem.tail _ (List.Mem.tail _ (List.Mem.head _))) | exact List.Mem.tail _ (List.Mem.tail _ (List.Mem.tail _ (List.Mem.tail _ (List.Mem.head _)))) | (repeat (first | exact List.Mem.head _ | refine List.Mem.tail _ ?_))) rfl rfl)
      | (refine OX.box H rfl rfl rfl rfl rfl ?_; intro b w H _)
      | (refine OX.alloc sg H rfl rfl rfl rfl rfl ?_; intro b w H _)
      | ((with_reducible apply OX.store sg H); exact rfl; exact rfl; exact rfl; exact rfl; exact rfl; exact rfl; (repeat (first | exact Up.here | apply Up.there)); exact rfl; exact rfl; exact rfl; exact rfl; intro w H)
      | ((with_reducible apply RW.nil); exact rfl)
      | ((with_reducible apply OX.call); exact rfl; exact rfl; exact En.fn ent35 rfl rfl; exact held_at c y.acct y.amount 0 (taken_held t) H.mem (hc _ (by intro p hp; repeat (first | exact hp | exact List.mem_append_left _ hp | apply List.mem_cons_of_mem))); intro w hcl; replace H := H.ext hcl; clear hcl)
      | ((with_reducible apply QX.call); exact rfl; exact rfl; exact En.fn ent35 rfl rfl; exact (fun _ hcl => held_at c y.acct y.amount 0 (taken_held t) (H.ext hcl).mem (hc _ (by intro p hp; repeat (first | exact hp | exact List.mem_append_left _ hp | apply List.mem_cons_of_mem)))))
      | ((with_reducible apply OX.call); exact rfl; exact rfl; exact En.fn ent35 rfl rfl; exact held_at c x.seller sq x.qty hsq H.mem (hc _ (by intro p hp; repeat (first | exact hp | exact List.mem_append_left _ hp | apply List.mem_cons_of_mem))); intro w hcl; replace H := H.ext hcl; clear hcl)
      | ((with_reducible apply QX.call); exact rfl; exact rfl; exact En.fn ent35 rfl rfl; exact (fun _ hcl => held_at c x.seller sq x.qty hsq (H.ext hcl).mem (hc _ (by intro p hp; repeat (first | exact hp | exact List.mem_append_left _ hp | apply List.mem_cons_of_mem)))))
      | ((with_reducible apply OX.call); exact rfl; exact rfl; exact En.fn ent21 rfl rfl; exact top_at3 c tp true htp H.mem (hc _ (by intro p hp; repeat (first | exact hp | exact List.mem_append_left _ hp | apply List.mem_cons_of_mem))); intro w hcl; replace H := H.ext hcl; clear hcl)
      | ((with_reducible apply QX.call); exact rfl; exact rfl; exact En.fn ent21 rfl rfl; exact (fun _ hcl => top_at3 c tp true htp (H.ext hcl).mem (hc _ (by intro p hp; repeat (first | exact hp | exact List.mem_append_left _ hp | apply List.mem_cons_of_mem)))))
      | ((with_reducible apply OX.call); exact rfl; exact rfl; exact En.fn ent17 rfl rfl; exact may_at3 c true (taken_may t) H.mem (hc _ (by intro p hp; repeat (first | exact hp | exact List.mem_append_left _ hp | apply List.mem_cons_of_mem))); intro w hcl; replace H := H.ext hcl; clear hcl)
      | ((with_reducible apply QX.call); exact rfl; exact rfl; exact En.fn ent17 rfl rfl; exact (fun _ hcl => may_at3 c true (taken_may t) (H.ext hcl).mem (hc _ (by intro p hp; repeat (first | exact hp | exact List.mem_append_left _ hp | apply List.mem_cons_of_mem)))))
      | ((with_reducible apply OX.call); exact rfl; exact rfl; exact En.fn ent17 rfl rfl; exact may_at3 x true t.may (H.memF hF) hs0; intro w hcl; replace H := H.ext hcl; clear hcl)
      | ((with_reducible apply QX.call); exact rfl; exact rfl; exact En.fn ent17 rfl rfl; exact (fun _ hcl => may_at3 x true t.may ((H.ext hcl).memF hF) hs0))
      | ((with_reducible apply OW.gY); exact rfl; exact rfl; exact rfl)
      | ((with_reducible apply OW.gN); exact rfl; exact rfl; exact rfl; exact rfl; exact rfl)
      | ((with_reducible apply QW.gY); exact rfl; exact rfl; exact rfl)
      | ((with_reducible apply QW.gN); exact rfl; exact rfl; exact rfl; exact rfl; exact rfl)
      | ((with_reducible apply OW.gS); exact rfl; exact rfl; exact rfl; all_goals (intro h; try (exfalso; first | (simp at h; done) | ((simp only [decide_eq_true_eq, decide_eq_false_iff_not, beq_iff_eq, beq_eq_false_iff_ne, bne_iff_ne, ne_eq, Bool.not_eq_true, Int.not_lt, Int.not_le, gt_iff_lt, ge_iff_le] at h; omega); done))))
      | ((with_reducible apply QW.gS); exact rfl; exact rfl; exact rfl; all_goals (intro h; try (exfalso; first | (simp at h; done) | ((simp only [decide_eq_true_eq, decide_eq_false_iff_not, beq_iff_eq, beq_eq_false_iff_ne, bne_iff_ne, ne_eq, Bool.not_eq_true, Int.not_lt, Int.not_le, gt_iff_lt, ge_iff_le] at h; omega); done))))
      | with_reducible apply OW.app
      | with_reducible apply OW.app0
      | with_reducible apply QW.app
      | with_reducible apply QW.app0
      | with_reducible apply OW.nil
      | ((with_reducible apply QW.nil); intro w hcl; replace H := H.ext hcl; clear hcl)
      | ((with_reducible apply RW.one); exact rfl; decide +kernel)
      | with_reducible apply thn_n
      | with_reducible apply CW.seq
      | with_reducible apply CW.region
      | ((with_reducible apply CW.regionD mixed); decide +kernel)
      | with_reducible apply CW.block
      | with_reducible apply CW.ret
      | with_reducible apply CW.exit
      | with_reducible apply CW.skip
      | with_reducible apply thn_r
      | with_reducible apply thn_e
      | with_reducible apply blk_n
      | with_reducible apply blk_r
      | ((with_reducible apply blk_e1); exact rfl)
      | ((with_reducible apply blk_e0); exact rfl)
      | ((with_reducible apply CW.condT); exact rfl)
      | ((with_reducible apply CW.condF); exact rfl))
  refine CW.cond rfl (fun h => absurd (of_decide_eq_true h) (by omega)) (fun _ => ?_)
  obtain ⟨hn1, hc1, b1, off1, cs1, T1, fr1, hs1⟩ := hc M (fun _ h => h)
  have tpe := topF c
  rcases Bool.eq_false_or_eq_true x.sealed with hse | hse
  · obtain ⟨j1, j2⟩ := taken_sealedtop t hse
    obtain ⟨j3, j4, j5⟩ := taken_sealed t hse
    have k1 : c.bids.length = x.bids.length + 1 := by rw [j3]; simp [Auc.put]
    have k2 : c.bids.getD x.bids.length default = y := by rw [j3]; exact getD_snoc
    have k3 : ∀ i, i < x.bids.length → c.bids.getD i default = x.bids.getD i default := fun i hi => by rw [j3]; exact getD_snoc_lt hi
    clear j3 j5
    repeat' (first
        | ((with_reducible apply OW.p sg); exact rfl; exact rfl; exact rfl; exact rfl)
        | ((with_reducible apply QW.p sg); exact rfl; exact rfl; exact rfl; exact rfl)
        | ((with_reducible apply OW.go); exact rfl)
        | ((with_reducible apply QW.go); exact rfl)
        | ((with_reducible apply OX.pure sg); exact rfl; exact rfl; exact rfl)
        | ((with_reducible apply QX.pure sg); exact rfl; exact rfl; exact rfl)
        | ((with_reducible apply OX.val); exact rfl; exact rfl; exact Yq.loadS sg rfl rfl H.mem (by first | exact List.Mem.head _ | exact List.Mem.tail _ (List.Mem.head _) | exact List.Mem.tail _ (List.Mem.tail _ (List.Mem.head _)) | exact List.Mem.tail _ (List.Mem.tail _ (List.Mem.tail _ (List.Mem.head _))) | exact List.Mem.tail _ (List.Mem.tail _ (List.Mem.tail _ (List.Mem.tail _ (List.Mem.head _)))) | (repeat (first | exact List.Mem.head _ | refine List.Mem.tail _ ?_))) rfl rfl)
        | ((with_reducible apply QX.val); exact rfl; exact rfl; exact Yq.loadS sg rfl rfl H.mem (by first | exact List.Mem.head _ | exact List.Mem.tail _ (List.Mem.head _) | exact List.Mem.tail _ (List.Mem.tail _ (List.Mem.head _)) | exact List.Mem.tail _ (List.Mem.tail _ (List.Mem.tail _ (List.Mem.head _))) | exact List.Mem.tail _ (List.Mem.tail _ (List.Mem.tail _ (List.Mem.tail _ (List.Mem.head _)))) | (repeat (first | exact List.Mem.head _ | refine List.Mem.tail _ ?_))) rfl rfl)
        | (refine OX.box H rfl rfl rfl rfl rfl ?_; intro b w H _)
        | (refine OX.alloc sg H rfl rfl rfl rfl rfl ?_; intro b w H _)
        | ((with_reducible apply OX.store sg H); exact rfl; exact rfl; exact rfl; exact rfl; exact rfl; exact rfl; (repeat (first | exact Up.here | apply Up.there)); exact rfl; exact rfl; exact rfl; exact rfl; intro w H)
        | ((with_reducible apply RW.nil); exact rfl)
        | ((with_reducible apply OW.gY); exact rfl; exact rfl; exact rfl)
        | ((with_reducible apply OW.gN); exact rfl; exact rfl; exact rfl; exact rfl; exact rfl)
        | ((with_reducible apply QW.gY); exact rfl; exact rfl; exact rfl)
        | ((with_reducible apply QW.gN); exact rfl; exact rfl; exact rfl; exact rfl; exact rfl)
        | ((with_reducible apply OW.gS); exact rfl; exact rfl; exact rfl; all_goals (intro h; try (exfalso; first | (rw [hse] at h; cases h; done) | (simp at h; done))))
        | ((with_reducible apply QW.gS); exact rfl; exact rfl; exact rfl; all_goals (intro h; try (exfalso; first | (rw [hse] at h; cases h; done) | (simp at h; done))))
        | with_reducible apply OW.app
        | with_reducible apply OW.app0
        | with_reducible apply QW.app
        | with_reducible apply QW.app0
        | with_reducible apply OW.nil
        | ((with_reducible apply QW.nil); intro w hcl; replace H := H.ext hcl; clear hcl)
        | ((with_reducible apply RW.one); exact rfl; decide +kernel)
        | with_reducible apply thn_n
        | with_reducible apply CW.seq
        | with_reducible apply CW.region
        | ((with_reducible apply CW.regionD mixed); decide +kernel)
        | with_reducible apply CW.block
        | with_reducible apply CW.ret
        | with_reducible apply CW.exit
        | with_reducible apply CW.skip
        | with_reducible apply thn_r
        | with_reducible apply thn_e
        | with_reducible apply blk_n
        | with_reducible apply blk_r
        | ((with_reducible apply blk_e1); exact rfl)
        | ((with_reducible apply blk_e0); exact rfl)
        | ((with_reducible apply CW.condT); exact rfl)
        | ((with_reducible apply CW.condF); exact rfl))
    refine CW.cond rfl (fun h => ?_) (fun _ => ?_)
    · rw [hse] at h; cases h
    repeat' (first
        | ((with_reducible apply OW.p sg); exact rfl; exact rfl; exact rfl; exact rfl)
        | ((with_reducible apply QW.p sg); exact rfl; exact rfl; exact rfl; exact rfl)
        | ((with_reducible apply OW.go); exact rfl)
        | ((with_reducible apply QW.go); exact rfl)
        | ((with_reducible apply OX.pure sg); exact rfl; exact rfl; exact rfl)
        | ((with_reducible apply QX.pure sg); exact rfl; exact rfl; exact rfl)
        | ((with_reducible apply OX.val); exact rfl; exact rfl; exact Yq.loadS sg rfl rfl H.mem (by first | exact List.Mem.head _ | exact List.Mem.tail _ (List.Mem.head _) | exact List.Mem.tail _ (List.Mem.tail _ (List.Mem.head _)) | exact List.Mem.tail _ (List.Mem.tail _ (List.Mem.tail _ (List.Mem.head _))) | exact List.Mem.tail _ (List.Mem.tail _ (List.Mem.tail _ (List.Mem.tail _ (List.Mem.head _)))) | (repeat (first | exact List.Mem.head _ | refine List.Mem.tail _ ?_))) rfl rfl)
        | ((with_reducible apply QX.val); exact rfl; exact rfl; exact Yq.loadS sg rfl rfl H.mem (by first | exact List.Mem.head _ | exact List.Mem.tail _ (List.Mem.head _) | exact List.Mem.tail _ (List.Mem.tail _ (List.Mem.head _)) | exact List.Mem.tail _ (List.Mem.tail _ (List.Mem.tail _ (List.Mem.head _))) | exact List.Mem.tail _ (List.Mem.tail _ (List.Mem.tail _ (List.Mem.tail _ (List.Mem.head _)))) | (repeat (first | exact List.Mem.head _ | refine List.Mem.tail _ ?_))) rfl rfl)
        | (refine OX.box H rfl rfl rfl rfl rfl ?_; intro b w H _)
        | (refine OX.alloc sg H rfl rfl rfl rfl rfl ?_; intro b w H _)
        | ((with_reducible apply OX.store sg H); exact rfl; exact rfl; exact rfl; exact rfl; exact rfl; exact rfl; (repeat (first | exact Up.here | apply Up.there)); exact rfl; exact rfl; exact rfl; exact rfl; intro w H)
        | ((with_reducible apply RW.nil); exact rfl)
        | ((with_reducible apply OX.val); exact rfl; exact rfl; exact Yq.ixB sg hs1 rfl rfl rfl rfl rfl rfl rfl (by first | with_reducible exact Int.toNat_natCast _ | exact toNat_pred (by omega) (by omega) | with_reducible exact toNat_0 | exact toNat_self _) (by omega) (by omega))
        | ((with_reducible apply QX.val); exact rfl; exact rfl; exact Yq.ixB sg hs1 rfl rfl rfl rfl rfl rfl rfl (by first | with_reducible exact Int.toNat_natCast _ | exact toNat_pred (by omega) (by omega) | with_reducible exact toNat_0 | exact toNat_self _) (by omega) (by omega))
        | ((with_reducible apply OX.val); exact rfl; exact rfl; exact Yq.loadB sg hs1 (mem_sub H.mem (by intro p hp; repeat (first | exact hp | exact List.mem_append_left _ hp | apply List.mem_cons_of_mem))) rfl rfl rfl rfl rfl (by (rw [k1]; omega)))
        | ((with_reducible apply QX.val); exact rfl; exact rfl; exact Yq.loadB sg hs1 (mem_sub H.mem (by intro p hp; repeat (first | exact hp | exact List.mem_append_left _ hp | apply List.mem_cons_of_mem))) rfl rfl rfl rfl rfl (by (rw [k1]; omega)))
        | ((with_reducible apply OX.val); exact rfl; exact rfl; exact Yq.neqBid (c.bids.getD x.bids.length default) y rfl rfl rfl)
        | ((with_reducible apply QX.val); exact rfl; exact rfl; exact Yq.neqBid (c.bids.getD x.bids.length default) y rfl rfl rfl)
        | ((with_reducible apply OX.call); exact rfl; exact rfl; exact En.fn ent24 rfl rfl; exact leasts c 1 j1 H.mem (hc _ (by intro p hp; repeat (first | exact hp | exact List.mem_append_left _ hp | apply List.mem_cons_of_mem))); intro w hcl; replace H := H.ext hcl; clear hcl)
        | ((with_reducible apply QX.call); exact rfl; exact rfl; exact En.fn ent24 rfl rfl; exact (fun _ hcl => leasts c 1 j1 (H.ext hcl).mem (hc _ (by intro p hp; repeat (first | exact hp | exact List.mem_append_left _ hp | apply List.mem_cons_of_mem)))))
        | ((with_reducible apply OW.gY); exact rfl; exact rfl; exact rfl)
        | ((with_reducible apply OW.gN); exact rfl; exact rfl; exact rfl; exact rfl; exact rfl)
        | ((with_reducible apply QW.gY); exact rfl; exact rfl; exact rfl)
        | ((with_reducible apply QW.gN); exact rfl; exact rfl; exact rfl; exact rfl; exact rfl)
        | ((with_reducible apply OW.gS); exact rfl; exact rfl; exact rfl; all_goals (intro h; try (exfalso; first | (rw [w64 (by omega) (by omega), k1] at h; simp at h; done) | (rw [k1] at h; simp at h; done) | (rw [k2] at h; simp at h; done) | (simp at h; done))))
        | ((with_reducible apply QW.gS); exact rfl; exact rfl; exact rfl; all_goals (intro h; try (exfalso; first | (rw [w64 (by omega) (by omega), k1] at h; simp at h; done) | (rw [k1] at h; simp at h; done) | (rw [k2] at h; simp at h; done) | (simp at h; done))))
        | with_reducible apply OW.app
        | with_reducible apply OW.app0
        | with_reducible apply QW.app
        | with_reducible apply QW.app0
        | with_reducible apply OW.nil
        | ((with_reducible apply QW.nil); intro w hcl; replace H := H.ext hcl; clear hcl)
        | ((with_reducible apply RW.one); exact rfl; decide +kernel)
        | with_reducible apply thn_n
        | with_reducible apply CW.seq
        | with_reducible apply CW.region
        | ((with_reducible apply CW.regionD mixed); decide +kernel)
        | with_reducible apply CW.block
        | with_reducible apply CW.ret
        | with_reducible apply CW.exit
        | with_reducible apply CW.skip
        | with_reducible apply thn_r
        | with_reducible apply thn_e
        | with_reducible apply blk_n
        | with_reducible apply blk_r
        | ((with_reducible apply blk_e1); exact rfl)
        | ((with_reducible apply blk_e0); exact rfl)
        | ((with_reducible apply CW.condT); exact rfl)
        | ((with_reducible apply CW.condF); exact rfl))
    refine CW.loopI [(4, 4), (14, 14), (159, 176)] (fun k : Nat => [(14, .int .i64 (k : Int))])
      (fun k w => k ≤ x.bids.length ∧ St w0 (cb _ tp.cells 26 :: cb _ (c.cells a' cap') 24 :: cb _ y.cells 26 :: cb _ (x.cells a cap) 24 :: M) w) (fun k => x.bids.length - k) 0 ⟨rfl, trivial⟩ ⟨Nat.zero_le _, H⟩ ?_
    clear H
    rintro k g w ⟨hk, H⟩
    obtain ⟨hn0, hc0, b0, off0, cs0, T0, fr0, hs2⟩ := id hs0
    repeat' (first
        | ((with_reducible apply OW.p sg); exact rfl; exact rfl; exact rfl; exact rfl)
        | ((with_reducible apply QW.p sg); exact rfl; exact rfl; exact rfl; exact rfl)
        | ((with_reducible apply OW.go); exact rfl)
        | ((with_reducible apply QW.go); exact rfl)
        | ((with_reducible apply OX.pure sg); exact rfl; exact rfl; exact rfl)
        | ((with_reducible apply QX.pure sg); exact rfl; exact rfl; exact rfl)
        | ((with_reducible apply OX.val); exact rfl; exact rfl; exact Yq.loadS sg rfl rfl H.mem (by first | exact List.Mem.head _ | exact List.Mem.tail _ (List.Mem.head _) | exact List.Mem.tail _ (List.Mem.tail _ (List.Mem.head _)) | exact List.Mem.tail _ (List.Mem.tail _ (List.Mem.tail _ (List.Mem.head _))) | exact List.Mem.tail _ (List.Mem.tail _ (List.Mem.tail _ (List.Mem.tail _ (List.Mem.head _)))) | (repeat (first | exact List.Mem.head _ | refine List.Mem.tail _ ?_))) rfl rfl)
        | ((with_reducible apply QX.val); exact rfl; exact rfl; exact Yq.loadS sg rfl rfl H.mem (by first | exact List.Mem.head _ | exact List.Mem.tail _ (List.Mem.head _) | exact List.Mem.tail _ (List.Mem.tail _ (List.Mem.head _)) | exact List.Mem.tail _ (List.Mem.tail _ (List.Mem.tail _ (List.Mem.head _))) | exact List.Mem.tail _ (List.Mem.tail _ (List.Mem.tail _ (List.Mem.tail _ (List.Mem.head _)))) | (repeat (first | exact List.Mem.head _ | refine List.Mem.tail _ ?_))) rfl rfl)
        | (refine OX.box H rfl rfl rfl rfl rfl ?_; intro b w H _)
        | (refine OX.alloc sg H rfl rfl rfl rfl rfl ?_; intro b w H _)
        | ((with_reducible apply OX.store sg H); exact rfl; exact rfl; exact rfl; exact rfl; exact rfl; exact rfl; (repeat (first | exact Up.here | apply Up.there)); exact rfl; exact rfl; exact rfl; exact rfl; intro w H)
        | ((with_reducible apply RW.nil); exact rfl)
        | ((with_reducible apply OW.gY); exact rfl; exact rfl; exact rfl)
        | ((with_reducible apply OW.gN); exact rfl; exact rfl; exact rfl; exact rfl; exact rfl)
        | ((with_reducible apply QW.gY); exact rfl; exact rfl; exact rfl)
        | ((with_reducible apply QW.gN); exact rfl; exact rfl; exact rfl; exact rfl; exact rfl)
        | ((with_reducible apply OW.gS); exact rfl; exact rfl; exact rfl; all_goals intro h)
        | ((with_reducible apply QW.gS); exact rfl; exact rfl; exact rfl; all_goals intro h)
        | with_reducible apply OW.app
        | with_reducible apply OW.app0
        | with_reducible apply QW.app
        | with_reducible apply QW.app0
        | with_reducible apply OW.nil
        | ((with_reducible apply QW.nil); intro w hcl; replace H := H.ext hcl; clear hcl)
        | ((with_reducible apply RW.one); exact rfl; decide +kernel)
        | with_reducible apply thn_n
        | with_reducible apply CW.seq
        | with_reducible apply CW.region
        | ((with_reducible apply CW.regionD mixed); decide +kernel)
        | with_reducible apply CW.block
        | with_reducible apply CW.ret
        | with_reducible apply CW.exit
        | with_reducible apply CW.skip
        | with_reducible apply thn_r
        | with_reducible apply thn_e
        | with_reducible apply blk_n
        | with_reducible apply blk_r
        | ((with_reducible apply blk_e1); exact rfl)
        | ((with_reducible apply blk_e0); exact rfl)
        | ((with_reducible apply CW.condT); exact rfl)
        | ((with_reducible apply CW.condF); exact rfl))
    refine CW.cond rfl (fun h2 => ?_) (fun h2 => ?_)
    · have hlt : k < x.bids.length := by simpa using h2
      repeat' (first
          | ((with_reducible apply OW.p sg); exact rfl; exact rfl; exact rfl; exact rfl)
          | ((with_reducible apply QW.p sg); exact rfl; exact rfl; exact rfl; exact rfl)
          | ((with_reducible apply OW.go); exact rfl)
          | ((with_reducible apply QW.go); exact rfl)
          | ((with_reducible apply OX.pure sg); exact rfl; exact rfl; exact rfl)
          | ((with_reducible apply QX.pure sg); exact rfl; exact rfl; exact rfl)
          | ((with_reducible apply OX.val); exact rfl; exact rfl; exact Yq.loadS sg rfl rfl H.mem (by first | exact List.Mem.head _ | exact List.Mem.tail _ (List.Mem.head _) | exact List.Mem.tail _ (List.Mem.tail _ (List.Mem.head _)) | exact List.Mem.tail _ (List.Mem.tail _ (List.Mem.tail _ (List.Mem.head _))) | exact List.Mem.tail _ (List.Mem.tail _ (List.Mem.tail _ (List.Mem.tail _ (List.Mem.head _)))) | (repeat (first | exact List.Mem.head _ | refine List.Mem.tail _ ?_))) rfl rfl)
          | ((with_reducible apply QX.val); exact rfl; exact rfl; exact Yq.loadS sg rfl rfl H.mem (by first | exact List.Mem.head _ | exact List.Mem.tail _ (List.Mem.head _) | exact List.Mem.tail _ (List.Mem.tail _ (List.Mem.head _)) | exact List.Mem.tail _ (List.Mem.tail _ (List.Mem.tail _ (List.Mem.head _))) | exact List.Mem.tail _ (List.Mem.tail _ (List.Mem.tail _ (List.Mem.tail _ (List.Mem.head _)))) | (repeat (first | exact List.Mem.head _ | refine List.Mem.tail _ ?_))) rfl rfl)
          | (refine OX.box H rfl rfl rfl rfl rfl ?_; intro b w H _)
          | (refine OX.alloc sg H rfl rfl rfl rfl rfl ?_; intro b w H _)
          | ((with_reducible apply OX.store sg H); exact rfl; exact rfl; exact rfl; exact rfl; exact rfl; exact rfl; (repeat (first | exact Up.here | apply Up.there)); exact rfl; exact rfl; exact rfl; exact rfl; intro w H)
          | ((with_reducible apply RW.nil); exact rfl)
          | ((with_reducible apply OX.val); exact rfl; exact rfl; exact Yq.ixB sg hs1 rfl rfl rfl rfl rfl rfl rfl (by first | with_reducible exact Int.toNat_natCast _ | exact toNat_pred (by omega) (by omega) | with_reducible exact toNat_0 | exact toNat_self _) (by omega) (by omega))
          | ((with_reducible apply QX.val); exact rfl; exact rfl; exact Yq.ixB sg hs1 rfl rfl rfl rfl rfl rfl rfl (by first | with_reducible exact Int.toNat_natCast _ | exact toNat_pred (by omega) (by omega) | with_reducible exact toNat_0 | exact toNat_self _) (by omega) (by omega))
          | ((with_reducible apply OX.val); exact rfl; exact rfl; exact Yq.loadB sg hs1 (mem_sub H.mem (by intro p hp; repeat (first | exact hp | exact List.mem_append_left _ hp | apply List.mem_cons_of_mem))) rfl rfl rfl rfl rfl (by (rw [k1]; omega)))
          | ((with_reducible apply QX.val); exact rfl; exact rfl; exact Yq.loadB sg hs1 (mem_sub H.mem (by intro p hp; repeat (first | exact hp | exact List.mem_append_left _ hp | apply List.mem_cons_of_mem))) rfl rfl rfl rfl rfl (by (rw [k1]; omega)))
          | ((with_reducible apply OX.val); exact rfl; exact rfl; exact Yq.ixB sg hs2 rfl rfl rfl rfl rfl rfl rfl (by first | with_reducible exact Int.toNat_natCast _ | exact toNat_pred (by omega) (by omega) | with_reducible exact toNat_0 | exact toNat_self _) (by omega) (by omega))
          | ((with_reducible apply QX.val); exact rfl; exact rfl; exact Yq.ixB sg hs2 rfl rfl rfl rfl rfl rfl rfl (by first | with_reducible exact Int.toNat_natCast _ | exact toNat_pred (by omega) (by omega) | with_reducible exact toNat_0 | exact toNat_self _) (by omega) (by omega))
          | ((with_reducible apply OX.val); exact rfl; exact rfl; exact Yq.loadB sg hs2 (H.memF hF) rfl rfl rfl rfl rfl (by omega))
          | ((with_reducible apply QX.val); exact rfl; exact rfl; exact Yq.loadB sg hs2 (H.memF hF) rfl rfl rfl rfl rfl (by omega))
          | ((with_reducible apply OX.val); exact rfl; exact rfl; exact Yq.neqBid (c.bids.getD k default) (x.bids.getD k default) rfl rfl rfl)
          | ((with_reducible apply QX.val); exact rfl; exact rfl; exact Yq.neqBid (c.bids.getD k default) (x.bids.getD k default) rfl rfl rfl)
          | ((with_reducible apply OW.gY); exact rfl; exact rfl; exact rfl)
          | ((with_reducible apply OW.gN); exact rfl; exact rfl; exact rfl; exact rfl; exact rfl)
          | ((with_reducible apply QW.gY); exact rfl; exact rfl; exact rfl)
          | ((with_reducible apply QW.gN); exact rfl; exact rfl; exact rfl; exact rfl; exact rfl)
          | ((with_reducible apply OW.gS); exact rfl; exact rfl; exact rfl; all_goals (intro h; try (exfalso; first | (rw [k3 k hlt] at h; simp at h; done))))
          | ((with_reducible apply QW.gS); exact rfl; exact rfl; exact rfl; all_goals (intro h; try (exfalso; first | (rw [k3 k hlt] at h; simp at h; done))))
          | with_reducible apply OW.app
          | with_reducible apply OW.app0
          | with_reducible apply QW.app
          | with_reducible apply QW.app0
          | with_reducible apply OW.nil
          | ((with_reducible apply QW.nil); intro w hcl; replace H := H.ext hcl; clear hcl)
          | ((with_reducible apply RW.one); exact rfl; decide +kernel)
          | with_reducible apply thn_n
          | with_reducible apply CW.seq
          | with_reducible apply CW.region
          | ((with_reducible apply CW.regionD mixed); decide +kernel)
          | with_reducible apply CW.block
          | with_reducible apply CW.ret
          | with_reducible apply CW.exit
          | with_reducible apply CW.skip
          | with_reducible apply thn_r
          | with_reducible apply thn_e
          | with_reducible apply blk_n
          | with_reducible apply blk_r
          | ((with_reducible apply blk_e1); exact rfl)
          | ((with_reducible apply blk_e0); exact rfl)
          | ((with_reducible apply CW.condT); exact rfl)
          | ((with_reducible apply CW.condF); exact rfl)
          | ((with_reducible apply CW.cond); exact rfl; all_goals (intro h; try (exfalso; first | (rw [k3 k hlt] at h; simp at h; done)))))
      exact Again.mk (k + 1) rfl ⟨vsucc (by omega), trivial⟩ ⟨hlt, H⟩ (by omega)
    · have hkn : k = x.bids.length := by simp at h2; omega
      subst hkn
      obtain ⟨old, was, ho⟩ : ∃ W s, topF x = (W, s) := ⟨_, _, rfl⟩
      have hwas := top_some t.may
      rw [ho] at hwas
      simp only [htp, ho] at hwas j2
      have hv : was = true ∨ was = false := by cases was <;> simp
      have hww : was = true ↔ 0 < x.bids.length := by rw [hwas]; simp only [decide_eq_true_eq]; omega
      clear hwas
      repeat' (first
          | ((with_reducible apply OW.p sg); exact rfl; exact rfl; exact rfl; exact rfl)
          | ((with_reducible apply QW.p sg); exact rfl; exact rfl; exact rfl; exact rfl)
          | ((with_reducible apply OW.go); exact rfl)
          | ((with_reducible apply QW.go); exact rfl)
          | ((with_reducible apply OX.pure sg); exact rfl; exact rfl; exact rfl)
          | ((with_reducible apply QX.pure sg); exact rfl; exact rfl; exact rfl)
          | ((with_reducible apply OX.val); exact rfl; exact rfl; exact Yq.loadS sg rfl rfl H.mem (by first | exact List.Mem.head _ | exact List.Mem.tail _ (List.Mem.head _) | exact List.Mem.tail _ (List.Mem.tail _ (List.Mem.head _)) | exact List.Mem.tail _ (List.Mem.tail _ (List.Mem.tail _ (List.Mem.head _))) | exact List.Mem.tail _ (List.Mem.tail _ (List.Mem.tail _ (List.Mem.tail _ (List.Mem.head _)))) | (repeat (first | exact List.Mem.head _ | refine List.Mem.tail _ ?_))) rfl rfl)
          | ((with_reducible apply QX.val); exact rfl; exact rfl; exact Yq.loadS sg rfl rfl H.mem (by first | exact List.Mem.head _ | exact List.Mem.tail _ (List.Mem.head _) | exact List.Mem.tail _ (List.Mem.tail _ (List.Mem.head _)) | exact List.Mem.tail _ (List.Mem.tail _ (List.Mem.tail _ (List.Mem.head _))) | exact List.Mem.tail _ (List.Mem.tail _ (List.Mem.tail _ (List.Mem.tail _ (List.Mem.head _)))) | (repeat (first | exact List.Mem.head _ | refine List.Mem.tail _ ?_))) rfl rfl)
          | (refine OX.box H rfl rfl rfl rfl rfl ?_; intro b w H _)
          | (refine OX.alloc sg H rfl rfl rfl rfl rfl ?_; intro b w H _)
          | ((with_reducible apply OX.store sg H); exact rfl; exact rfl; exact rfl; exact rfl; exact rfl; exact rfl; (repeat (first | exact Up.here | apply Up.there)); exact rfl; exact rfl; exact rfl; exact rfl; intro w H)
          | ((with_reducible apply RW.nil); exact rfl)
          | ((with_reducible apply OX.call); exact rfl; exact rfl; exact En.fn ent21 rfl rfl; exact top_at3 x old was ho (H.memF hF) hs0; intro w hcl; replace H := H.ext hcl; clear hcl)
          | ((with_reducible apply QX.call); exact rfl; exact rfl; exact En.fn ent21 rfl rfl; exact (fun _ hcl => top_at3 x old was ho ((H.ext hcl).memF hF) hs0))
          | ((with_reducible apply OX.val); exact rfl; exact rfl; exact Yq.eqlBid tp y rfl rfl rfl)
          | ((with_reducible apply QX.val); exact rfl; exact rfl; exact Yq.eqlBid tp y rfl rfl rfl)
          | ((with_reducible apply OX.val); exact rfl; exact rfl; exact Yq.eqlBid tp old rfl rfl rfl)
          | ((with_reducible apply QX.val); exact rfl; exact rfl; exact Yq.eqlBid tp old rfl rfl rfl)
          | ((with_reducible apply OW.gY); exact rfl; exact rfl; exact rfl)
          | ((with_reducible apply OW.gN); exact rfl; exact rfl; exact rfl; exact rfl; exact rfl)
          | ((with_reducible apply QW.gY); exact rfl; exact rfl; exact rfl)
          | ((with_reducible apply QW.gN); exact rfl; exact rfl; exact rfl; exact rfl; exact rfl)
          | ((with_reducible apply OW.gS); exact rfl; exact rfl; exact rfl; all_goals intro h)
          | ((with_reducible apply QW.gS); exact rfl; exact rfl; exact rfl; all_goals intro h)
          | with_reducible apply OW.app
          | with_reducible apply OW.app0
          | with_reducible apply QW.app
          | with_reducible apply QW.app0
          | with_reducible apply OW.nil
          | ((with_reducible apply QW.nil); intro w hcl; replace H := H.ext hcl; clear hcl)
          | ((with_reducible apply RW.one); exact rfl; decide +kernel)
          | with_reducible apply thn_n
          | with_reducible apply CW.seq
          | with_reducible apply CW.region
          | ((with_reducible apply CW.regionD mixed); decide +kernel)
          | with_reducible apply CW.block
          | with_reducible apply CW.ret
          | with_reducible apply CW.exit
          | with_reducible apply CW.skip
          | with_reducible apply thn_r
          | with_reducible apply thn_e
          | with_reducible apply blk_n
          | with_reducible apply blk_r
          | ((with_reducible apply blk_e1); exact rfl)
          | ((with_reducible apply blk_e0); exact rfl)
          | ((with_reducible apply CW.condT); exact rfl)
          | ((with_reducible apply CW.condF); exact rfl))
      all_goals first
        | exact ret1 rfl H.cl rfl
        | (exfalso; rcases j2 with ⟨q1, q2 | q2⟩ | ⟨q1, q2, q3⟩ <;> simp_all <;> omega)
        | (refine ret1 rfl H.cl ?_; show Value.bool _ = Value.bool _; congr 1; rcases j2 with ⟨q1, q2 | q2⟩ | ⟨q1, q2, q3⟩ <;> simp_all <;> omega)
  · obtain ⟨j1, j2⟩ := taken_engtop t hse
    obtain ⟨j3, j4⟩ := taken_eng t hse
    rw [htp] at j1
    simp only at j1
    have k1 : c.bids.length = 1 := by rw [j3]; rfl
    have k2 : c.bids.getD 0 default = y := by rw [j3]; rfl
    have st := step_bd t.may hse
    have yb := within_bd t.amount
    clear j3
    repeat' (first
        | ((with_reducible apply OW.p sg); exact rfl; exact rfl; exact rfl; exact rfl)
        | ((with_reducible apply QW.p sg); exact rfl; exact rfl; exact rfl; exact rfl)
        | ((with_reducible apply OW.go); exact rfl)
        | ((with_reducible apply QW.go); exact rfl)
        | ((with_reducible apply OX.pure sg); exact rfl; exact rfl; exact rfl)
        | ((with_reducible apply QX.pure sg); exact rfl; exact rfl; exact rfl)
        | ((with_reducible apply OX.val); exact rfl; exact rfl; exact Yq.loadS sg rfl rfl H.mem (by first | exact List.Mem.head _ | exact List.Mem.tail _ (List.Mem.head _) | exact List.Mem.tail _ (List.Mem.tail _ (List.Mem.head _)) | exact List.Mem.tail _ (List.Mem.tail _ (List.Mem.tail _ (List.Mem.head _))) | exact List.Mem.tail _ (List.Mem.tail _ (List.Mem.tail _ (List.Mem.tail _ (List.Mem.head _)))) | (repeat (first | exact List.Mem.head _ | refine List.Mem.tail _ ?_))) rfl rfl)
        | ((with_reducible apply QX.val); exact rfl; exact rfl; exact Yq.loadS sg rfl rfl H.mem (by first | exact List.Mem.head _ | exact List.Mem.tail _ (List.Mem.head _) | exact List.Mem.tail _ (List.Mem.tail _ (List.Mem.head _)) | exact List.Mem.tail _ (List.Mem.tail _ (List.Mem.tail _ (List.Mem.head _))) | exact List.Mem.tail _ (List.Mem.tail _ (List.Mem.tail _ (List.Mem.tail _ (List.Mem.head _)))) | (repeat (first | exact List.Mem.head _ | refine List.Mem.tail _ ?_))) rfl rfl)
        | (refine OX.box H rfl rfl rfl rfl rfl ?_; intro b w H _)
        | (refine OX.alloc sg H rfl rfl rfl rfl rfl ?_; intro b w H _)
        | ((with_reducible apply OX.store sg H); exact rfl; exact rfl; exact rfl; exact rfl; exact rfl; exact rfl; (repeat (first | exact Up.here | apply Up.there)); exact rfl; exact rfl; exact rfl; exact rfl; intro w H)
        | ((with_reducible apply RW.nil); exact rfl)
        | ((with_reducible apply OW.gY); exact rfl; exact rfl; exact rfl)
        | ((with_reducible apply OW.gN); exact rfl; exact rfl; exact rfl; exact rfl; exact rfl)
        | ((with_reducible apply QW.gY); exact rfl; exact rfl; exact rfl)
        | ((with_reducible apply QW.gN); exact rfl; exact rfl; exact rfl; exact rfl; exact rfl)
        | ((with_reducible apply OW.gS); exact rfl; exact rfl; exact rfl; all_goals (intro h; try (exfalso; first | (rw [hse] at h; cases h; done))))
        | ((with_reducible apply QW.gS); exact rfl; exact rfl; exact rfl; all_goals (intro h; try (exfalso; first | (rw [hse] at h; cases h; done))))
        | with_reducible apply OW.app
        | with_reducible apply OW.app0
        | with_reducible apply QW.app
        | with_reducible apply QW.app0
        | with_reducible apply OW.nil
        | ((with_reducible apply QW.nil); intro w hcl; replace H := H.ext hcl; clear hcl)
        | ((with_reducible apply RW.one); exact rfl; decide +kernel)
        | with_reducible apply thn_n
        | with_reducible apply CW.seq
        | with_reducible apply CW.region
        | ((with_reducible apply CW.regionD mixed); decide +kernel)
        | with_reducible apply CW.block
        | with_reducible apply CW.ret
        | with_reducible apply CW.exit
        | with_reducible apply CW.skip
        | with_reducible apply thn_r
        | with_reducible apply thn_e
        | with_reducible apply blk_n
        | with_reducible apply blk_r
        | ((with_reducible apply blk_e1); exact rfl)
        | ((with_reducible apply blk_e0); exact rfl)
        | ((with_reducible apply CW.condT); exact rfl)
        | ((with_reducible apply CW.condF); exact rfl))
    refine CW.cond rfl (fun _ => ?_) (fun h => ?_)
    · repeat' (first
        | ((with_reducible apply OW.p sg); exact rfl; exact rfl; exact rfl; exact rfl)
        | ((with_reducible apply QW.p sg); exact rfl; exact rfl; exact rfl; exact rfl)
        | ((with_reducible apply OW.go); exact rfl)
        | ((with_reducible apply QW.go); exact rfl)
        | ((with_reducible apply OX.pure sg); exact rfl; exact rfl; exact rfl)
        | ((with_reducible apply QX.pure sg); exact rfl; exact rfl; exact rfl)
        | ((with_reducible apply OX.val); exact rfl; exact rfl; exact Yq.loadS sg rfl rfl H.mem (by first | exact List.Mem.head _ | exact List.Mem.tail _ (List.Mem.head _) | exact List.Mem.tail _ (List.Mem.tail _ (List.Mem.head _)) | exact List.Mem.tail _ (List.Mem.tail _ (List.Mem.tail _ (List.Mem.head _))) | exact List.Mem.tail _ (List.Mem.tail _ (List.Mem.tail _ (List.Mem.tail _ (List.Mem.head _)))) | (repeat (first | exact List.Mem.head _ | refine List.Mem.tail _ ?_))) rfl rfl)
        | ((with_reducible apply QX.val); exact rfl; exact rfl; exact Yq.loadS sg rfl rfl H.mem (by first | exact List.Mem.head _ | exact List.Mem.tail _ (List.Mem.head _) | exact List.Mem.tail _ (List.Mem.tail _ (List.Mem.head _)) | exact List.Mem.tail _ (List.Mem.tail _ (List.Mem.tail _ (List.Mem.head _))) | exact List.Mem.tail _ (List.Mem.tail _ (List.Mem.tail _ (List.Mem.tail _ (List.Mem.head _)))) | (repeat (first | exact List.Mem.head _ | refine List.Mem.tail _ ?_))) rfl rfl)
        | (refine OX.box H rfl rfl rfl rfl rfl ?_; intro b w H _)
        | (refine OX.alloc sg H rfl rfl rfl rfl rfl ?_; intro b w H _)
        | ((with_reducible apply OX.store sg H); exact rfl; exact rfl; exact rfl; exact rfl; exact rfl; exact rfl; (repeat (first | exact Up.here | apply Up.there)); exact rfl; exact rfl; exact rfl; exact rfl; intro w H)
        | ((with_reducible apply RW.nil); exact rfl)
        | ((with_reducible apply OX.val); exact rfl; exact rfl; exact Yq.ixB sg hs1 rfl rfl rfl rfl rfl rfl rfl (by first | with_reducible exact Int.toNat_natCast _ | exact toNat_pred (by omega) (by omega) | with_reducible exact toNat_0 | exact toNat_self _) (by omega) (by omega))
        | ((with_reducible apply QX.val); exact rfl; exact rfl; exact Yq.ixB sg hs1 rfl rfl rfl rfl rfl rfl rfl (by first | with_reducible exact Int.toNat_natCast _ | exact toNat_pred (by omega) (by omega) | with_reducible exact toNat_0 | exact toNat_self _) (by omega) (by omega))
        | ((with_reducible apply OX.val); exact rfl; exact rfl; exact Yq.loadB sg hs1 (mem_sub H.mem (by intro p hp; repeat (first | exact hp | exact List.mem_append_left _ hp | apply List.mem_cons_of_mem))) rfl rfl rfl rfl rfl (by omega))
        | ((with_reducible apply QX.val); exact rfl; exact rfl; exact Yq.loadB sg hs1 (mem_sub H.mem (by intro p hp; repeat (first | exact hp | exact List.mem_append_left _ hp | apply List.mem_cons_of_mem))) rfl rfl rfl rfl rfl (by omega))
        | ((with_reducible apply OX.val); exact rfl; exact rfl; exact Yq.eqlBid (c.bids.getD 0 default) y rfl rfl rfl)
        | ((with_reducible apply QX.val); exact rfl; exact rfl; exact Yq.eqlBid (c.bids.getD 0 default) y rfl rfl rfl)
        | ((with_reducible apply OX.val); exact rfl; exact rfl; exact Yq.eqlBid tp y rfl rfl rfl)
        | ((with_reducible apply QX.val); exact rfl; exact rfl; exact Yq.eqlBid tp y rfl rfl rfl)
        | ((with_reducible apply OX.call); exact rfl; exact rfl; exact En.fn ent24 rfl rfl; exact leasts c (y.amount + x.step) j2 H.mem (hc _ (by intro p hp; repeat (first | exact hp | exact List.mem_append_left _ hp | apply List.mem_cons_of_mem))); intro w hcl; replace H := H.ext hcl; clear hcl)
        | ((with_reducible apply QX.call); exact rfl; exact rfl; exact En.fn ent24 rfl rfl; exact (fun _ hcl => leasts c (y.amount + x.step) j2 (H.ext hcl).mem (hc _ (by intro p hp; repeat (first | exact hp | exact List.mem_append_left _ hp | apply List.mem_cons_of_mem)))))
        | ((with_reducible apply OW.gY); exact rfl; exact rfl; exact rfl)
        | ((with_reducible apply OW.gN); exact rfl; exact rfl; exact rfl; exact rfl; exact rfl)
        | ((with_reducible apply QW.gY); exact rfl; exact rfl; exact rfl)
        | ((with_reducible apply QW.gN); exact rfl; exact rfl; exact rfl; exact rfl; exact rfl)
        | ((with_reducible apply OW.gS); exact rfl; exact rfl; exact rfl; all_goals (intro h; try (exfalso; first | (rw [k1] at h; simp at h; done) | (rw [k2] at h; simp at h; done) | (rw [j1] at h; simp at h; done))))
        | ((with_reducible apply QW.gS); exact rfl; exact rfl; exact rfl; all_goals (intro h; try (exfalso; first | (rw [k1] at h; simp at h; done) | (rw [k2] at h; simp at h; done) | (rw [j1] at h; simp at h; done))))
        | with_reducible apply OW.app
        | with_reducible apply OW.app0
        | with_reducible apply QW.app
        | with_reducible apply QW.app0
        | with_reducible apply OW.nil
        | ((with_reducible apply QW.nil); intro w hcl; replace H := H.ext hcl; clear hcl)
        | ((with_reducible apply RW.one); exact rfl; decide +kernel)
        | with_reducible apply thn_n
        | with_reducible apply CW.seq
        | with_reducible apply CW.region
        | ((with_reducible apply CW.regionD mixed); decide +kernel)
        | with_reducible apply CW.block
        | with_reducible apply CW.ret
        | with_reducible apply CW.exit
        | with_reducible apply CW.skip
        | with_reducible apply thn_r
        | with_reducible apply thn_e
        | with_reducible apply blk_n
        | with_reducible apply blk_r
        | ((with_reducible apply blk_e1); exact rfl)
        | ((with_reducible apply blk_e0); exact rfl)
        | ((with_reducible apply CW.condT); exact rfl)
        | ((with_reducible apply CW.condF); exact rfl))
      refine ret1 rfl H.cl ?_
      show Value.bool _ = Value.bool _
      rw [w64 (by omega) (by omega), beq_self_eq_true]
    · rw [hse] at h; cases h
end Go.Proofs.Ytkcoemikglbomaa
