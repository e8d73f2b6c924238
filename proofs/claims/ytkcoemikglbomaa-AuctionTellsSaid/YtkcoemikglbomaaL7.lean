/- The law AuctionTells, walked. -/
import Derived.Test.YtkcoemikglbomaaA16
import Derived.Test.YtkcoemikglbomaaL5
import Derived.Test.YtkcoemikglbomaaR1
set_option linter.unusedSimpArgs false
set_option linter.unusedVariables false
namespace Go.Proofs.Ytkcoemikglbomaa
open Go Go.Sk Go.RowKit
attribute [local irreducible] Go.Calls
/-- The blocks so far under one name. -/
theorem st_name {w0 w : World} {G : Frag} (H : St w0 G w) : ∃ G', G' = G ∧ St w0 G' w := ⟨G, rfl, H⟩
theorem perm3 (A M1 M2 M3 : Frag) : (A ++ ((M1 ++ M2) ++ M3)).Perm (M2 ++ (A ++ (M1 ++ M3))) := by
  have h1 : ((M1 ++ M2) ++ M3).Perm (M2 ++ (M1 ++ M3)) := by
    have := (List.perm_append_comm (l₁ := M1) (l₂ := M2)).append_right M3
    rwa [List.append_assoc M2] at this
  exact (h1.append_left A).trans (List.perm_append_comm_assoc A M2 (M1 ++ M3))
structure Tw where
  m1 : Frag
  a1 : Option Addr
  c1 : Nat
  ad1 : Nat → Option Addr × Nat
  m2 : Frag
  a2 : Option Addr
  c2 : Nat
  b : Nat
theorem getF_len {l : List Auc} {id : Int} (h : ∀ j, j < l.length → (l.getD j default).bids.length ≤ 1000) : (getF l id).1.bids.length ≤ 1000 := by
  unfold getF
  split
  · exact Nat.zero_le _
  · have := getI_lt l id
    exact h _ (by omega)
set_option maxRecDepth 20000 in
set_option maxHeartbeats 4000000 in
theorem c_Tells {al aa ab : Option Addr} {capl capa capb : Nat} (l : List Auc) (ad : Nat → Option Addr × Nat) (x y : Auc) (id acct : Int) (w0 : World) (hl : AucsW w0 al capl l ad) (hx : BidsW w0 aa capa x.bids) (hy : BidsW w0 ab capb y.bids) :
    Calls Try.prog 11 [.slice al l.length capl, .agg (x.cells aa capa).toArray, .agg (y.cells ab capb).toArray, .int .i64 id, .int .i64 acct].toArray w0 (Ret (.bool true) w0) := by
  have hF : Mem w0 (allF w0) := allF_mem w0
  obtain ⟨hnc, ⟨b0, off0, cs0, T0, fr0, hs0⟩, hbs0⟩ := hl
  obtain ⟨mn, hmn⟩ : ∃ b, manyF l = b := ⟨_, rfl⟩
  have manyX : ∀ {w : World}, Mem w (allF w0) → Calls Try.prog 19 [.slice al l.length capl].toArray w (Ret (.bool mn) w) := fun hF => hmn ▸ c_many l ad _ hF hs0
  refine enter [.tmp 10] Try.func11 rfl Try.ntmps11 rfl rfl ?_
  have H := St.start w0
  repeat' (first
      | ((with_reducible apply OW.p sg); exact rfl; exact rfl; exact rfl; exact rfl)
      | ((with_reducible apply QW.p sg); exact rfl; exact rfl; exact rfl; exact rfl)
      | ((with_reducible apply OW.go); exact rfl)
      | ((with_reducible apply QW.go); exact rfl)
      | ((with_reducible apply OX.pure sg); exact rfl; exact rfl; exact rfl)
      | ((with_reducible apply QX.pure sg); exact rfl; exact rfl; exact rfl)
      | ((with_reducible apply OX.val); exact rfl; exact rfl; exact Yq.loadS sg rfl rfl H.mem (by first | exact List.Mem.head _ | exact List.Mem.tail _ (List.Mem.head _) | exact List.Mem.tail _ (List.Mem.tail _ (List.Mem.head _)) | exact List.Mem.tail _ (List.Mem.tail _ (List.Mem.tail _ (List.Mem.head _))) | exact List.Mem.tail _ (List.Mem.tail _ (List.Mem.tail _ (List.Mem.tail _ (List.Mem.head _)))) | (repeat (first | exact List.Mem.head _ | refine List.Mem.tail _ ?_))) rfl rfl)
      | ((with_reducible apply QX.val); exact rfl; exact rfl; exact Yq.loadS sg rfl rfl H.mem (by first | exact List.Mem.head _ | exact List.Mem.tail _ (List.Mem.head _) | exact List.Mem.tail _ (List.Mem.tail _ (List.Mem.head _)) | exact List.Mem.tail _ (List.Mem.tail _ (List.Mem.tail _ (List.Mem.head _))) | exact List.Mem.tail _ (List.Mem.tail _ (List.Mem.tail _ (List.Mem.tail _ (List.Mem.head _)))) | (repeat (first | exact List.Mem.head _ | refine List.Mem.tail _ ?_))) rfl rfl)
      | (refine OX.box H rfl rfl rfl rfl rfl ?_; intro b w H _)
      | (refine OX.alloc sg H rfl rfl rfl rfl rfl ?_; intro b w H _)
      | ((with_reducible apply OX.store sg H); exact rfl; exact rfl; exact rfl; exact rfl; exact rfl; exact rfl; (repeat (first | exact Up.here | apply Up.there)); exact rfl; exact rfl; exact rfl; exact rfl; intro w H)
      | ((with_reducible apply RW.nil); exact rfl)
      | ((with_reducible apply OX.call); exact rfl; exact rfl; exact En.fn ent12 rfl rfl; exact c_awake _; intro w hcl; replace H := H.ext hcl; clear hcl)
      | ((with_reducible apply QX.call); exact rfl; exact rfl; exact En.fn ent12 rfl rfl; exact (fun _ hcl => c_awake _))
      | ((with_reducible apply OX.call); exact rfl; exact rfl; exact En.fn ent19 rfl rfl; exact manyX (H.memF hF); intro w hcl; replace H := H.ext hcl; clear hcl)
      | ((with_reducible apply QX.call); exact rfl; exact rfl; exact En.fn ent19 rfl rfl; exact (fun _ hcl => manyX ((H.ext hcl).memF hF)))
      | ((with_reducible apply OW.gY); exact rfl; exact rfl; exact rfl)
      | ((with_reducible apply OW.gN); exact rfl; exact rfl; exact rfl; exact rfl; exact rfl)
      | ((with_reducible apply QW.gY); exact rfl; exact rfl; exact rfl)
      | ((with_reducible apply QW.gN); exact rfl; exact rfl; exact rfl; exact rfl; exact rfl)
      | ((with_reducible apply OW.gS); exact rfl; exact rfl; exact rfl; all_goals intro h)
      | ((with_reducible apply QW.gS); exact rfl; exact rfl; exact rfl; all_goals intro h)
      | with_reducible apply OW.app
      | with_reducible apply OW.app0
      | with_reducible apply QW.app
      | with_reducible apply QW.app0
      | with_reducible apply OW.nil
      | ((with_reducible apply QW.nil); intro w hcl; replace H := H.ext hcl; clear hcl)
      | ((with_reducible apply RW.one); exact rfl; decide +kernel)
      | with_reducible apply thn_n
      | with_reducible apply CW.seq
      | with_reducible apply CW.region
      | with_reducible apply CW.block
      | with_reducible apply CW.ret
      | with_reducible apply CW.exit
      | with_reducible apply CW.skip
      | with_reducible apply thn_r
      | with_reducible apply thn_e
      | with_reducible apply blk_n
      | with_reducible apply blk_r
      | ((with_reducible apply blk_e1); exact rfl)
      | ((with_reducible apply blk_e0); exact rfl)
      | ((with_reducible apply CW.condT); exact rfl)
      | ((with_reducible apply CW.condF); exact rfl)
      | ((with_reducible apply CW.cond); exact rfl; all_goals intro h))
  iterate 3 · exact ret1 rfl H.cl rfl
  obtain rfl : mn = false := ‹mn = false›
  obtain ⟨hn1, hn2⟩ := many_no hmn
  have hx1 : x.bids.length ≤ 100 := by have := of_decide_eq_false ‹decide ((x.bids.length : Int) > 100) = false›; omega
  have hy1 : y.bids.length ≤ 100 := by have := of_decide_eq_false ‹decide ((y.bids.length : Int) > 100) = false›; omega
  have hxs := hx (by omega)
  have hys := hy (by omega)
  have hls : Aucs (allF w0) al capl l ad := ⟨SlA.of hnc (by omega) hs0, fun j hj => hbs0 j hj (by have := hn2 j hj; omega)⟩
  clear hx hy manyX hs0 hbs0
  obtain ⟨G, hG, H⟩ := st_name H
  refine CW.mid [(37, 40), (11, 12)] (fun q : Tw => [(11, .slice q.a1 l.length q.c1), (12, .pointer (some ⟨q.b, 0, none⟩))])
    (fun q w => Aucs q.m1 q.a1 q.c1 l q.ad1 ∧ OwnB q.m2 q.a2 q.c2 x.bids ∧ St w0 (cb q.b (x.cells q.a2 q.c2) 24 :: (G ++ (q.m1 ++ q.m2))) w) (fun g => ?_) ?_
  · rw [hG] at H
    repeat' (first
        | ((with_reducible apply OW.p sg); exact rfl; exact rfl; exact rfl; exact rfl)
        | ((with_reducible apply QW.p sg); exact rfl; exact rfl; exact rfl; exact rfl)
        | ((with_reducible apply OW.go); exact rfl)
        | ((with_reducible apply QW.go); exact rfl)
        | ((with_reducible apply OX.pure sg); exact rfl; exact rfl; exact rfl)
        | ((with_reducible apply QX.pure sg); exact rfl; exact rfl; exact rfl)
        | ((with_reducible apply OX.val); exact rfl; exact rfl; exact Yq.loadS sg rfl rfl H.mem (by first | exact List.Mem.head _ | exact List.Mem.tail _ (List.Mem.head _) | exact List.Mem.tail _ (List.Mem.tail _ (List.Mem.head _)) | exact List.Mem.tail _ (List.Mem.tail _ (List.Mem.tail _ (List.Mem.head _))) | exact List.Mem.tail _ (List.Mem.tail _ (List.Mem.tail _ (List.Mem.tail _ (List.Mem.head _)))) | (repeat (first | exact List.Mem.head _ | refine List.Mem.tail _ ?_))) rfl rfl)
        | ((with_reducible apply QX.val); exact rfl; exact rfl; exact Yq.loadS sg rfl rfl H.mem (by first | exact List.Mem.head _ | exact List.Mem.tail _ (List.Mem.head _) | exact List.Mem.tail _ (List.Mem.tail _ (List.Mem.head _)) | exact List.Mem.tail _ (List.Mem.tail _ (List.Mem.tail _ (List.Mem.head _))) | exact List.Mem.tail _ (List.Mem.tail _ (List.Mem.tail _ (List.Mem.tail _ (List.Mem.head _)))) | (repeat (first | exact List.Mem.head _ | refine List.Mem.tail _ ?_))) rfl rfl)
        | (refine OX.box H rfl rfl rfl rfl rfl ?_; intro b w H _)
        | (refine OX.alloc sg H rfl rfl rfl rfl rfl ?_; intro b w H _)
        | ((with_reducible apply OX.store sg H); exact rfl; exact rfl; exact rfl; exact rfl; exact rfl; exact rfl; (repeat (first | exact Up.here | apply Up.there)); exact rfl; exact rfl; exact rfl; exact rfl; intro w H)
        | ((with_reducible apply RW.nil); exact rfl)
        | ((with_reducible apply CW.regionA mixed 7); exact rfl; intro w hcl; replace H := H.ext hcl; clear hcl)
        | ((with_reducible apply RA.nil); decide +kernel)
        | ((with_reducible apply RA.take 0); decide +kernel; exact rfl; exact rfl; exact rfl; exact rfl; (first | exact (fun w => pvn_ok sg rfl w)); exact rfl)
        | ((with_reducible apply RA.c1 1); exact rfl; decide +kernel; exact rfl)
        | ((with_reducible apply RA.c1 2); exact rfl; decide +kernel; exact rfl)
        | ((with_reducible apply RA.c1 3); exact rfl; decide +kernel; exact rfl)
        | ((with_reducible apply RA.c1 4); exact rfl; decide +kernel; exact rfl)
        | ((with_reducible apply RA.c1 5); exact rfl; decide +kernel; exact rfl)
        | ((with_reducible apply RA.c1 6); exact rfl; decide +kernel; exact rfl)
        | ((with_reducible apply RA.c2 1 2); exact rfl; decide +kernel; exact rfl; exact rfl)
        | ((with_reducible apply RA.c2 1 4); exact rfl; decide +kernel; exact rfl; exact rfl)
        | ((with_reducible apply RA.c2 2 4); exact rfl; decide +kernel; exact rfl; exact rfl)
        | ((with_reducible apply RA.c2 3 4); exact rfl; decide +kernel; exact rfl; exact rfl)
        | ((with_reducible apply RA.c3 1 2 4); exact rfl; decide +kernel; exact rfl; exact rfl; exact rfl)
        | ((with_reducible apply OX.callF); exact rfl; exact rfl; exact En.fn ent20 rfl rfl; exact c_owns l ad _ (H.memF hF) hls hn1 hn2; intro v M1 w hR hS; replace H := H.addR hS; clear hS; (try simp only [List.cons_append, List.nil_append] at H); obtain ⟨a1, c1, ad1, rfl, hA1⟩ := hR)
        | ((with_reducible apply OX.callF); exact rfl; exact rfl; exact En.fn ent13 rfl rfl; exact c_Own x _ (H.memF hF) hxs (by omega); intro v M2 w hR hS; replace H := H.addR hS; clear hS; (try simp only [List.cons_append, List.nil_append] at H); obtain ⟨a2, c2, rfl, hO2⟩ := hR)
        | ((with_reducible apply OW.gY); exact rfl; exact rfl; exact rfl)
        | ((with_reducible apply OW.gN); exact rfl; exact rfl; exact rfl; exact rfl; exact rfl)
        | ((with_reducible apply QW.gY); exact rfl; exact rfl; exact rfl)
        | ((with_reducible apply QW.gN); exact rfl; exact rfl; exact rfl; exact rfl; exact rfl)
        | ((with_reducible apply OW.gS); exact rfl; exact rfl; exact rfl; all_goals intro h)
        | ((with_reducible apply QW.gS); exact rfl; exact rfl; exact rfl; all_goals intro h)
        | with_reducible apply OW.app
        | with_reducible apply OW.app0
        | with_reducible apply QW.app
        | with_reducible apply QW.app0
        | with_reducible apply OW.nil
        | ((with_reducible apply QW.nil); intro w hcl; replace H := H.ext hcl; clear hcl)
        | ((with_reducible apply RW.one); exact rfl; decide +kernel)
        | with_reducible apply thn_n
        | with_reducible apply CW.seq
        | with_reducible apply CW.region
        | with_reducible apply CW.block
        | with_reducible apply CW.ret
        | with_reducible apply CW.exit
        | with_reducible apply CW.skip
        | with_reducible apply thn_r
        | with_reducible apply thn_e
        | with_reducible apply blk_n
        | with_reducible apply blk_r
        | ((with_reducible apply blk_e1); exact rfl)
        | ((with_reducible apply blk_e0); exact rfl)
        | ((with_reducible apply CW.condT); exact rfl)
        | ((with_reducible apply CW.condF); exact rfl))
    all_goals exact Again.mk ⟨M1, a1, c1, ad1, M2, a2, c2, _⟩ rfl ⟨rfl, rfl, trivial⟩ ⟨hA1, hO2, by rw [hG]; exact H⟩ (Nat.lt_succ_self 0)
  clear H
  rintro ⟨M1, a1, c1, ad1, M2, a2, c2, bt⟩ g w ⟨hA1, hO2, H⟩
  simp only at hA1 hO2 H ⊢
  rw [hG] at H
  simp only [List.cons_append, List.nil_append] at H
  obtain ⟨gx, gis, hg⟩ : ∃ W s, getF l id = (W, s) := ⟨_, _, rfl⟩
  have hgl : gx.bids.length ≤ 1000 := by have := getF_len (id := id) hn2; rw [hg] at this; exact this
  have rget : ∀ {w : World}, Mem w (allF w0) → Calls Try.prog 37 [.slice al l.length capl, .int .i64 id].toArray w (RetF (fun M v => ∃ u, OwnA gx M u ∧ v = .tuple #[u, .bool gis]) w) := fun hF => by
    have := c_RGet l ad id _ hF hls (fun j hj => by have := hn2 j hj; omega)
    rw [hg] at this
    exact this
  have get : ∀ {F : Frag} {w : World}, Mem w F → M1 ⊆ F → Calls Try.prog 33 [.slice a1 l.length c1, .int .i64 id].toArray w (RetF (fun M v => ∃ u, OwnA gx M u ∧ v = .tuple #[u, .bool gis]) w) := fun hF hM => by
    have := c_Get l ad1 id _ hF ⟨hA1.1.mono hM, fun j hj => (hA1.2 j hj).mono hM⟩ (fun j hj => by have := hn2 j hj; omega)
    rw [hg] at this
    exact this
  repeat' (first
      | ((with_reducible apply OW.p sg); exact rfl; exact rfl; exact rfl; exact rfl)
      | ((with_reducible apply QW.p sg); exact rfl; exact rfl; exact rfl; exact rfl)
      | ((with_reducible apply OW.go); exact rfl)
      | ((with_reducible apply QW.go); exact rfl)
      | ((with_reducible apply OX.pure sg); exact rfl; exact rfl; exact rfl)
      | ((with_reducible apply QX.pure sg); exact rfl; exact rfl; exact rfl)
      | ((with_reducible apply OX.val); exact rfl; exact rfl; exact Yq.loadS sg rfl rfl H.mem (by first | exact List.Mem.head _ | exact List.Mem.tail _ (List.Mem.head _) | exact List.Mem.tail _ (List.Mem.tail _ (List.Mem.head _)) | exact List.Mem.tail _ (List.Mem.tail _ (List.Mem.tail _ (List.Mem.head _))) | exact List.Mem.tail _ (List.Mem.tail _ (List.Mem.tail _ (List.Mem.tail _ (List.Mem.head _)))) | (repeat (first | exact List.Mem.head _ | refine List.Mem.tail _ ?_))) rfl rfl)
      | ((with_reducible apply QX.val); exact rfl; exact rfl; exact Yq.loadS sg rfl rfl H.mem (by first | exact List.Mem.head _ | exact List.Mem.tail _ (List.Mem.head _) | exact List.Mem.tail _ (List.Mem.tail _ (List.Mem.head _)) | exact List.Mem.tail _ (List.Mem.tail _ (List.Mem.tail _ (List.Mem.head _))) | exact List.Mem.tail _ (List.Mem.tail _ (List.Mem.tail _ (List.Mem.tail _ (List.Mem.head _)))) | (repeat (first | exact List.Mem.head _ | refine List.Mem.tail _ ?_))) rfl rfl)
      | (refine OX.box H rfl rfl rfl rfl rfl ?_; intro b w H _)
      | (refine OX.alloc sg H rfl rfl rfl rfl rfl ?_; intro b w H _)
      | ((with_reducible apply OX.store sg H); exact rfl; exact rfl; exact rfl; exact rfl; exact rfl; exact rfl; (repeat (first | exact Up.here | apply Up.there)); exact rfl; exact rfl; exact rfl; exact rfl; intro w H)
      | ((with_reducible apply RW.nil); exact rfl)
      | ((with_reducible apply OX.callF); exact rfl; exact rfl; exact En.fn ent37 rfl rfl; exact rget (H.memF hF); intro v M3 w hR hS; replace H := H.addR hS; clear hS; (try simp only [List.cons_append, List.nil_append] at H); obtain ⟨u, ⟨a3, c3, rfl, hO3⟩, rfl⟩ := hR)
      | ((with_reducible apply OW.gY); exact rfl; exact rfl; exact rfl)
      | ((with_reducible apply OW.gN); exact rfl; exact rfl; exact rfl; exact rfl; exact rfl)
      | ((with_reducible apply QW.gY); exact rfl; exact rfl; exact rfl)
      | ((with_reducible apply QW.gN); exact rfl; exact rfl; exact rfl; exact rfl; exact rfl)
      | ((with_reducible apply OW.gS); exact rfl; exact rfl; exact rfl; all_goals intro h)
      | ((with_reducible apply QW.gS); exact rfl; exact rfl; exact rfl; all_goals intro h)
      | with_reducible apply OW.app
      | with_reducible apply OW.app0
      | with_reducible apply QW.app
      | with_reducible apply QW.app0
      | with_reducible apply OW.nil
      | ((with_reducible apply QW.nil); intro w hcl; replace H := H.ext hcl; clear hcl)
      | ((with_reducible apply RW.one); exact rfl; decide +kernel)
      | with_reducible apply thn_n
      | with_reducible apply CW.seq
      | with_reducible apply CW.region
      | ((with_reducible apply CW.regionD mixed); decide +kernel)
      | with_reducible apply CW.block
      | with_reducible apply CW.ret
      | with_reducible apply CW.exit
      | with_reducible apply CW.skip
      | with_reducible apply thn_r
      | with_reducible apply thn_e
      | with_reducible apply blk_n
      | with_reducible apply blk_r
      | ((with_reducible apply blk_e1); exact rfl)
      | ((with_reducible apply blk_e0); exact rfl)
      | ((with_reducible apply CW.condT); exact rfl)
      | ((with_reducible apply CW.condF); exact rfl))
  refine CW.loopI [(10, 10), (15, 17), (47, 65)] (fun k : Nat => [(15, .int .i64 (k : Int))])
    (fun k w => k ≤ 2 ∧ St w0 (cb _ (gx.cells a3 c3) 24 :: cb bt (x.cells a2 c2) 24 :: cb _ (y.cells ab capb) 24 :: cb _ (x.cells aa capa) 24 :: ((M1 ++ M2) ++ M3)) w) (fun k => 2 - k) 0
    ⟨rfl, trivial⟩ ⟨Nat.zero_le _, H⟩ ?_
  clear H
  rintro k g w ⟨hk, H⟩
  repeat' (first
      | ((with_reducible apply OW.p sg); exact rfl; exact rfl; exact rfl; exact rfl)
      | ((with_reducible apply QW.p sg); exact rfl; exact rfl; exact rfl; exact rfl)
      | ((with_reducible apply OW.go); exact rfl)
      | ((with_reducible apply QW.go); exact rfl)
      | ((with_reducible apply OX.pure sg); exact rfl; exact rfl; exact rfl)
      | ((with_reducible apply QX.pure sg); exact rfl; exact rfl; exact rfl)
      | ((with_reducible apply OX.val); exact rfl; exact rfl; exact Yq.loadS sg rfl rfl H.mem (by first | exact List.Mem.head _ | exact List.Mem.tail _ (List.Mem.head _) | exact List.Mem.tail _ (List.Mem.tail _ (List.Mem.head _)) | exact List.Mem.tail _ (List.Mem.tail _ (List.Mem.tail _ (List.Mem.head _))) | exact List.Mem.tail _ (List.Mem.tail _ (List.Mem.tail _ (List.Mem.tail _ (List.Mem.head _)))) | (repeat (first | exact List.Mem.head _ | refine List.Mem.tail _ ?_))) rfl rfl)
      | ((with_reducible apply QX.val); exact rfl; exact rfl; exact Yq.loadS sg rfl rfl H.mem (by first | exact List.Mem.head _ | exact List.Mem.tail _ (List.Mem.head _) | exact List.Mem.tail _ (List.Mem.tail _ (List.Mem.head _)) | exact List.Mem.tail _ (List.Mem.tail _ (List.Mem.tail _ (List.Mem.head _))) | exact List.Mem.tail _ (List.Mem.tail _ (List.Mem.tail _ (List.Mem.tail _ (List.Mem.head _)))) | (repeat (first | exact List.Mem.head _ | refine List.Mem.tail _ ?_))) rfl rfl)
      | (refine OX.box H rfl rfl rfl rfl rfl ?_; intro b w H _)
      | (refine OX.alloc sg H rfl rfl rfl rfl rfl ?_; intro b w H _)
      | ((with_reducible apply OX.store sg H); exact rfl; exact rfl; exact rfl; exact rfl; exact rfl; exact rfl; (repeat (first | exact Up.here | apply Up.there)); exact rfl; exact rfl; exact rfl; exact rfl; intro w H)
      | ((with_reducible apply RW.nil); exact rfl)
      | ((with_reducible apply OW.gY); exact rfl; exact rfl; exact rfl)
      | ((with_reducible apply OW.gN); exact rfl; exact rfl; exact rfl; exact rfl; exact rfl)
      | ((with_reducible apply QW.gY); exact rfl; exact rfl; exact rfl)
      | ((with_reducible apply QW.gN); exact rfl; exact rfl; exact rfl; exact rfl; exact rfl)
      | ((with_reducible apply OW.gS); exact rfl; exact rfl; exact rfl; all_goals intro h)
      | ((with_reducible apply QW.gS); exact rfl; exact rfl; exact rfl; all_goals intro h)
      | with_reducible apply OW.app
      | with_reducible apply OW.app0
      | with_reducible apply QW.app
      | with_reducible apply QW.app0
      | with_reducible apply OW.nil
      | ((with_reducible apply QW.nil); intro w hcl; replace H := H.ext hcl; clear hcl)
      | ((with_reducible apply RW.one); exact rfl; decide +kernel)
      | with_reducible apply thn_n
      | with_reducible apply CW.seq
      | with_reducible apply CW.region
      | ((with_reducible apply CW.regionD mixed); decide +kernel)
      | with_reducible apply CW.block
      | with_reducible apply CW.ret
      | with_reducible apply CW.exit
      | with_reducible apply CW.skip
      | with_reducible apply thn_r
      | with_reducible apply thn_e
      | with_reducible apply blk_n
      | with_reducible apply blk_r
      | ((with_reducible apply blk_e1); exact rfl)
      | ((with_reducible apply blk_e0); exact rfl)
      | ((with_reducible apply CW.condT); exact rfl)
      | ((with_reducible apply CW.condF); exact rfl))
  refine CW.cond rfl (fun h2 => ?_) (fun h2 => ?_)
  · have hlt : k < 2 := by have := of_decide_eq_true h2; omega
    repeat' (first
        | ((with_reducible apply OW.p sg); exact rfl; exact rfl; exact rfl; exact rfl)
        | ((with_reducible apply QW.p sg); exact rfl; exact rfl; exact rfl; exact rfl)
        | ((with_reducible apply OW.go); exact rfl)
        | ((with_reducible apply QW.go); exact rfl)
        | ((with_reducible apply OX.pure sg); exact rfl; exact rfl; exact rfl)
        | ((with_reducible apply QX.pure sg); exact rfl; exact rfl; exact rfl)
        | ((with_reducible apply OX.val); exact rfl; exact rfl; exact Yq.loadS sg rfl rfl H.mem (by first | exact List.Mem.head _ | exact List.Mem.tail _ (List.Mem.head _) | exact List.Mem.tail _ (List.Mem.tail _ (List.Mem.head _)) | exact List.Mem.tail _ (List.Mem.tail _ (List.Mem.tail _ (List.Mem.head _))) | exact List.Mem.tail _ (List.Mem.tail _ (List.Mem.tail _ (List.Mem.tail _ (List.Mem.head _)))) | (repeat (first | exact List.Mem.head _ | refine List.Mem.tail _ ?_))) rfl rfl)
        | ((with_reducible apply QX.val); exact rfl; exact rfl; exact Yq.loadS sg rfl rfl H.mem (by first | exact List.Mem.head _ | exact List.Mem.tail _ (List.Mem.head _) | exact List.Mem.tail _ (List.Mem.tail _ (List.Mem.head _)) | exact List.Mem.tail _ (List.Mem.tail _ (List.Mem.tail _ (List.Mem.head _))) | exact List.Mem.tail _ (List.Mem.tail _ (List.Mem.tail _ (List.Mem.tail _ (List.Mem.head _)))) | (repeat (first | exact List.Mem.head _ | refine List.Mem.tail _ ?_))) rfl rfl)
        | (refine OX.box H rfl rfl rfl rfl rfl ?_; intro b w H _)
        | (refine OX.alloc sg H rfl rfl rfl rfl rfl ?_; intro b w H _)
        | ((with_reducible apply OX.store sg H); exact rfl; exact rfl; exact rfl; exact rfl; exact rfl; exact rfl; (repeat (first | exact Up.here | apply Up.there)); exact rfl; exact rfl; exact rfl; exact rfl; intro w H)
        | ((with_reducible apply RW.nil); exact rfl)
        | ((with_reducible apply OX.callF); exact rfl; exact rfl; exact En.fn ent33 rfl rfl; exact get H.mem (by intro p hp; repeat (first | exact hp | exact List.mem_append_right _ hp | exact List.mem_append_left _ hp | exact List.mem_append_left _ (List.mem_append_right _ hp) | exact List.mem_append_left _ (List.mem_append_left _ hp) | apply List.mem_cons_of_mem)); intro v M4 w hR hS; replace H := H.addR hS; clear hS; (try simp only [List.cons_append, List.nil_append] at H); obtain ⟨u, ⟨a4, c4, rfl, hO4⟩, rfl⟩ := hR)
        | ((with_reducible apply OX.callM); exact rfl; exact rfl; exact En.fn ent16 rfl rfl; exact (c_isT gx w0 _ (H.perm (List.perm_append_comm (l₁ := _ :: _ :: _ :: _ :: _ :: ((M1 ++ M2) ++ M3)) (l₂ := M4))) hF hO4 (by omega) (hO3.bids (by intro p hp; exact List.mem_append_left _ (by repeat (first | exact hp | exact List.mem_append_right _ hp | exact List.mem_append_left _ hp | exact List.mem_append_left _ (List.mem_append_right _ hp) | exact List.mem_append_left _ (List.mem_append_left _ hp) | apply List.mem_cons_of_mem))) (by omega))); intro v Mx w hR H; obtain ⟨rfl, M', rfl⟩ := hR; replace H := H.sub (List.sublist_append_right M' _))
        | ((with_reducible apply OW.gY); exact rfl; exact rfl; exact rfl)
        | ((with_reducible apply OW.gN); exact rfl; exact rfl; exact rfl; exact rfl; exact rfl)
        | ((with_reducible apply QW.gY); exact rfl; exact rfl; exact rfl)
        | ((with_reducible apply QW.gN); exact rfl; exact rfl; exact rfl; exact rfl; exact rfl)
        | ((with_reducible apply OW.gS); exact rfl; exact rfl; exact rfl; all_goals (intro h; try (exfalso; first | (simp at h; done))))
        | ((with_reducible apply QW.gS); exact rfl; exact rfl; exact rfl; all_goals (intro h; try (exfalso; first | (simp at h; done))))
        | with_reducible apply OW.app
        | with_reducible apply OW.app0
        | with_reducible apply QW.app
        | with_reducible apply QW.app0
        | with_reducible apply OW.nil
        | ((with_reducible apply QW.nil); intro w hcl; replace H := H.ext hcl; clear hcl)
        | ((with_reducible apply RW.one); exact rfl; decide +kernel)
        | with_reducible apply thn_n
        | with_reducible apply CW.seq
        | with_reducible apply CW.region
        | ((with_reducible apply CW.regionD mixed); decide +kernel)
        | with_reducible apply CW.block
        | with_reducible apply CW.ret
        | with_reducible apply CW.exit
        | with_reducible apply CW.skip
        | with_reducible apply thn_r
        | with_reducible apply thn_e
        | with_reducible apply blk_n
        | with_reducible apply blk_r
        | ((with_reducible apply blk_e1); exact rfl)
        | ((with_reducible apply blk_e0); exact rfl)
        | ((with_reducible apply CW.condT); exact rfl)
        | ((with_reducible apply CW.condF); exact rfl))
    exact Again.mk (k + 1) rfl ⟨vsucc (by omega), trivial⟩ ⟨hlt, H.sub (by repeat (first | exact List.Sublist.refl _ | exact List.nil_sublist _ | apply List.Sublist.cons_cons | apply List.Sublist.cons))⟩ (by omega)
  clear rget get
  obtain ⟨p, q, hh⟩ : ∃ p q, heldF x acct = (p, q) := ⟨_, _, rfl⟩
  have held : ∀ {F : Frag} {a : Option Addr} {cap : Nat} {w : World}, Mem w F → Bids F a cap x.bids → Calls Try.prog 35 [.agg (x.cells a cap).toArray, .int .i64 acct].toArray w (Ret (.tuple #[.int .i64 p, .int .i64 q]) w) := fun hF hs => by
    have := c_Held x acct _ hF hs; rw [hh] at this; exact this
  have rheld : ∀ {F : Frag} {a : Option Addr} {cap : Nat} {w : World}, Mem w F → Bids F a cap x.bids → Calls Try.prog 38 [.agg (x.cells a cap).toArray, .int .i64 acct].toArray w (Ret (.tuple #[.int .i64 p, .int .i64 q]) w) := fun hF hs => by
    have := c_RHeld x acct _ hF hs; rw [hh] at this; exact this
  repeat' (first
      | ((with_reducible apply OW.p sg); exact rfl; exact rfl; exact rfl; exact rfl)
      | ((with_reducible apply QW.p sg); exact rfl; exact rfl; exact rfl; exact rfl)
      | ((with_reducible apply OW.go); exact rfl)
      | ((with_reducible apply QW.go); exact rfl)
      | ((with_reducible apply OX.pure sg); exact rfl; exact rfl; exact rfl)
      | ((with_reducible apply QX.pure sg); exact rfl; exact rfl; exact rfl)
      | ((with_reducible apply OX.val); exact rfl; exact rfl; exact Yq.loadS sg rfl rfl H.mem (by first | exact List.Mem.head _ | exact List.Mem.tail _ (List.Mem.head _) | exact List.Mem.tail _ (List.Mem.tail _ (List.Mem.head _)) | exact List.Mem.tail _ (List.Mem.tail _ (List.Mem.tail _ (List.Mem.head _))) | exact List.Mem.tail _ (List.Mem.tail _ (List.Mem.tail _ (List.Mem.tail _ (List.Mem.head _)))) | (repeat (first | exact List.Mem.head _ | refine List.Mem.tail _ ?_))) rfl rfl)
      | ((with_reducible apply QX.val); exact rfl; exact rfl; exact Yq.loadS sg rfl rfl H.mem (by first | exact List.Mem.head _ | exact List.Mem.tail _ (List.Mem.head _) | exact List.Mem.tail _ (List.Mem.tail _ (List.Mem.head _)) | exact List.Mem.tail _ (List.Mem.tail _ (List.Mem.tail _ (List.Mem.head _))) | exact List.Mem.tail _ (List.Mem.tail _ (List.Mem.tail _ (List.Mem.tail _ (List.Mem.head _)))) | (repeat (first | exact List.Mem.head _ | refine List.Mem.tail _ ?_))) rfl rfl)
      | (refine OX.box H rfl rfl rfl rfl rfl ?_; intro b w H _)
      | (refine OX.alloc sg H rfl rfl rfl rfl rfl ?_; intro b w H _)
      | ((with_reducible apply OX.store sg H); exact rfl; exact rfl; exact rfl; exact rfl; exact rfl; exact rfl; (repeat (first | exact Up.here | apply Up.there)); exact rfl; exact rfl; exact rfl; exact rfl; intro w H)
      | ((with_reducible apply RW.nil); exact rfl)
      | ((with_reducible apply OX.call); exact rfl; exact rfl; exact En.fn ent35 rfl rfl; exact held H.mem (hO2.bids (by intro p hp; repeat (first | exact hp | exact List.mem_append_right _ hp | exact List.mem_append_left _ hp | exact List.mem_append_left _ (List.mem_append_right _ hp) | exact List.mem_append_left _ (List.mem_append_left _ hp) | apply List.mem_cons_of_mem)) (by omega)); intro w hcl; replace H := H.ext hcl; clear hcl)
      | ((with_reducible apply QX.call); exact rfl; exact rfl; exact En.fn ent35 rfl rfl; exact (fun _ hcl => held (H.ext hcl).mem (hO2.bids (by intro p hp; repeat (first | exact hp | exact List.mem_append_right _ hp | exact List.mem_append_left _ hp | exact List.mem_append_left _ (List.mem_append_right _ hp) | exact List.mem_append_left _ (List.mem_append_left _ hp) | apply List.mem_cons_of_mem)) (by omega))))
      | ((with_reducible apply OX.call); exact rfl; exact rfl; exact En.fn ent38 rfl rfl; exact rheld (H.memF hF) hxs; intro w hcl; replace H := H.ext hcl; clear hcl)
      | ((with_reducible apply QX.call); exact rfl; exact rfl; exact En.fn ent38 rfl rfl; exact (fun _ hcl => rheld ((H.ext hcl).memF hF) hxs))
      | ((with_reducible apply OW.gY); exact rfl; exact rfl; exact rfl)
      | ((with_reducible apply OW.gN); exact rfl; exact rfl; exact rfl; exact rfl; exact rfl)
      | ((with_reducible apply QW.gY); exact rfl; exact rfl; exact rfl)
      | ((with_reducible apply QW.gN); exact rfl; exact rfl; exact rfl; exact rfl; exact rfl)
      | ((with_reducible apply OW.gS); exact rfl; exact rfl; exact rfl; all_goals intro h)
      | ((with_reducible apply QW.gS); exact rfl; exact rfl; exact rfl; all_goals intro h)
      | with_reducible apply OW.app
      | with_reducible apply OW.app0
      | with_reducible apply QW.app
      | with_reducible apply QW.app0
      | with_reducible apply OW.nil
      | ((with_reducible apply QW.nil); intro w hcl; replace H := H.ext hcl; clear hcl)
      | ((with_reducible apply RW.one); exact rfl; decide +kernel)
      | with_reducible apply thn_n
      | with_reducible apply CW.seq
      | with_reducible apply CW.region
      | with_reducible apply CW.block
      | with_reducible apply CW.ret
      | with_reducible apply CW.exit
      | with_reducible apply CW.skip
      | with_reducible apply thn_r
      | with_reducible apply thn_e
      | with_reducible apply blk_n
      | with_reducible apply blk_r
      | ((with_reducible apply blk_e1); exact rfl)
      | ((with_reducible apply blk_e0); exact rfl)
      | ((with_reducible apply CW.condT); exact rfl)
      | ((with_reducible apply CW.condF); exact rfl))
  have mayall : ∀ {F : Frag} {w : World}, Mem w F → M1 ⊆ F → Calls Try.prog 32 [.slice a1 l.length c1].toArray w (Ret (.bool (mayAllF l)) w) := fun hF hM => c_MayAll l ad1 _ hF ⟨hA1.1.mono hM, fun j hj => (hA1.2 j hj).mono hM⟩
  have sameXY : ∀ {L : Frag} {w : World}, St w0 L w → M2 ⊆ L → Calls Try.prog 41 [.agg (x.cells a2 c2).toArray, .agg (y.cells ab capb).toArray].toArray w (Ret (.bool (sameF x y)) w) := fun H hM =>
    c_Same x y _ (H.all hF) (hO2.bids (fun p hp => List.mem_append_left _ (hM hp)) (by omega)) (hys.mono (List.subset_append_right _ _))
  have sameXX : ∀ {L : Frag} {w : World}, St w0 L w → M2 ⊆ L → Calls Try.prog 41 [.agg (x.cells a2 c2).toArray, .agg (x.cells aa capa).toArray].toArray w (Ret (.bool true) w) := fun H hM =>
    sameF_self x ▸ c_Same x x _ (H.all hF) (hO2.bids (fun p hp => List.mem_append_left _ (hM hp)) (by omega)) (hxs.mono (List.subset_append_right _ _))
  repeat' (first
      | ((with_reducible apply OW.p sg); exact rfl; exact rfl; exact rfl; exact rfl)
      | ((with_reducible apply QW.p sg); exact rfl; exact rfl; exact rfl; exact rfl)
      | ((with_reducible apply OW.go); exact rfl)
      | ((with_reducible apply QW.go); exact rfl)
      | ((with_reducible apply OX.pure sg); exact rfl; exact rfl; exact rfl)
      | ((with_reducible apply QX.pure sg); exact rfl; exact rfl; exact rfl)
      | ((with_reducible apply OX.val); exact rfl; exact rfl; exact Yq.loadS sg rfl rfl H.mem (by first | exact List.Mem.head _ | exact List.Mem.tail _ (List.Mem.head _) | exact List.Mem.tail _ (List.Mem.tail _ (List.Mem.head _)) | exact List.Mem.tail _ (List.Mem.tail _ (List.Mem.tail _ (List.Mem.head _))) | exact List.Mem.tail _ (List.Mem.tail _ (List.Mem.tail _ (List.Mem.tail _ (List.Mem.head _)))) | (repeat (first | exact List.Mem.head _ | refine List.Mem.tail _ ?_))) rfl rfl)
      | ((with_reducible apply QX.val); exact rfl; exact rfl; exact Yq.loadS sg rfl rfl H.mem (by first | exact List.Mem.head _ | exact List.Mem.tail _ (List.Mem.head _) | exact List.Mem.tail _ (List.Mem.tail _ (List.Mem.head _)) | exact List.Mem.tail _ (List.Mem.tail _ (List.Mem.tail _ (List.Mem.head _))) | exact List.Mem.tail _ (List.Mem.tail _ (List.Mem.tail _ (List.Mem.tail _ (List.Mem.head _)))) | (repeat (first | exact List.Mem.head _ | refine List.Mem.tail _ ?_))) rfl rfl)
      | (refine OX.box H rfl rfl rfl rfl rfl ?_; intro b w H _)
      | (refine OX.alloc sg H rfl rfl rfl rfl rfl ?_; intro b w H _)
      | ((with_reducible apply OX.store sg H); exact rfl; exact rfl; exact rfl; exact rfl; exact rfl; exact rfl; (repeat (first | exact Up.here | apply Up.there)); exact rfl; exact rfl; exact rfl; exact rfl; intro w H)
      | ((with_reducible apply RW.nil); exact rfl)
      | ((with_reducible apply CW.regionR mixed); intro w hcl; replace H := H.ext hcl; clear hcl; (with_reducible apply RW.quiet 36); exact rfl; decide +kernel; simp only [List.take_succ_cons, List.take_zero, List.drop_zero])
      | ((with_reducible apply RW.one); exact rfl; decide +kernel)
      | ((with_reducible apply RW.quiet 39); exact rfl; decide +kernel; simp only [List.take_succ_cons, List.take_zero, List.drop_succ_cons, List.drop_zero])
      | ((with_reducible apply RW.quiet 45); exact rfl; decide +kernel; simp only [List.take_succ_cons, List.take_zero, List.drop_succ_cons, List.drop_zero])
      | ((with_reducible apply OX.call); exact rfl; exact rfl; exact En.fn ent17 rfl rfl; exact c_May x _ H.mem (hO2.bids (by intro p hp; repeat (first | exact hp | exact List.mem_append_right _ hp | exact List.mem_append_left _ hp | exact List.mem_append_left _ (List.mem_append_right _ hp) | exact List.mem_append_left _ (List.mem_append_left _ hp) | apply List.mem_cons_of_mem)) (by omega)); intro w hcl; replace H := H.ext hcl; clear hcl)
      | ((with_reducible apply QX.call); exact rfl; exact rfl; exact En.fn ent17 rfl rfl; exact (fun _ hcl => c_May x _ (H.ext hcl).mem (hO2.bids (by intro p hp; repeat (first | exact hp | exact List.mem_append_right _ hp | exact List.mem_append_left _ hp | exact List.mem_append_left _ (List.mem_append_right _ hp) | exact List.mem_append_left _ (List.mem_append_left _ hp) | apply List.mem_cons_of_mem)) (by omega))))
      | ((with_reducible apply OX.call); exact rfl; exact rfl; exact En.fn ent39 rfl rfl; exact c_RMay x _ (H.memF hF) hxs; intro w hcl; replace H := H.ext hcl; clear hcl)
      | ((with_reducible apply QX.call); exact rfl; exact rfl; exact En.fn ent39 rfl rfl; exact (fun _ hcl => c_RMay x _ ((H.ext hcl).memF hF) hxs))
      | ((with_reducible apply OX.call); exact rfl; exact rfl; exact En.fn ent32 rfl rfl; exact mayall H.mem (by intro p hp; repeat (first | exact hp | exact List.mem_append_right _ hp | exact List.mem_append_left _ hp | exact List.mem_append_left _ (List.mem_append_right _ hp) | exact List.mem_append_left _ (List.mem_append_left _ hp) | apply List.mem_cons_of_mem)); intro w hcl; replace H := H.ext hcl; clear hcl)
      | ((with_reducible apply QX.call); exact rfl; exact rfl; exact En.fn ent32 rfl rfl; exact (fun _ hcl => mayall (H.ext hcl).mem (by intro p hp; repeat (first | exact hp | exact List.mem_append_right _ hp | exact List.mem_append_left _ hp | exact List.mem_append_left _ (List.mem_append_right _ hp) | exact List.mem_append_left _ (List.mem_append_left _ hp) | apply List.mem_cons_of_mem))))
      | ((with_reducible apply OX.call); exact rfl; exact rfl; exact En.fn ent40 rfl rfl; exact c_RMayAll l ad _ (H.memF hF) hls; intro w hcl; replace H := H.ext hcl; clear hcl)
      | ((with_reducible apply QX.call); exact rfl; exact rfl; exact En.fn ent40 rfl rfl; exact (fun _ hcl => c_RMayAll l ad _ ((H.ext hcl).memF hF) hls))
      | ((with_reducible apply OX.call); exact rfl; exact rfl; exact En.fn ent41 rfl rfl; exact sameXY H (by intro p hp; repeat (first | exact hp | exact List.mem_append_right _ hp | exact List.mem_append_left _ hp | exact List.mem_append_left _ (List.mem_append_right _ hp) | exact List.mem_append_left _ (List.mem_append_left _ hp) | apply List.mem_cons_of_mem)); intro w hcl; replace H := H.ext hcl; clear hcl)
      | ((with_reducible apply QX.call); exact rfl; exact rfl; exact En.fn ent41 rfl rfl; exact (fun _ hcl => sameXY (H.ext hcl) (by intro p hp; repeat (first | exact hp | exact List.mem_append_right _ hp | exact List.mem_append_left _ hp | exact List.mem_append_left _ (List.mem_append_right _ hp) | exact List.mem_append_left _ (List.mem_append_left _ hp) | apply List.mem_cons_of_mem))))
      | ((with_reducible apply OX.call); exact rfl; exact rfl; exact En.fn ent41 rfl rfl; exact sameXX H (by intro p hp; repeat (first | exact hp | exact List.mem_append_right _ hp | exact List.mem_append_left _ hp | exact List.mem_append_left _ (List.mem_append_right _ hp) | exact List.mem_append_left _ (List.mem_append_left _ hp) | apply List.mem_cons_of_mem)); intro w hcl; replace H := H.ext hcl; clear hcl)
      | ((with_reducible apply QX.call); exact rfl; exact rfl; exact En.fn ent41 rfl rfl; exact (fun _ hcl => sameXX (H.ext hcl) (by intro p hp; repeat (first | exact hp | exact List.mem_append_right _ hp | exact List.mem_append_left _ hp | exact List.mem_append_left _ (List.mem_append_right _ hp) | exact List.mem_append_left _ (List.mem_append_left _ hp) | apply List.mem_cons_of_mem))))
      | ((with_reducible apply OX.call); exact rfl; exact rfl; exact En.fn ent31 rfl rfl; exact c_RSame x y _ (H.memF hF) hxs hys; intro w hcl; replace H := H.ext hcl; clear hcl)
      | ((with_reducible apply QX.call); exact rfl; exact rfl; exact En.fn ent31 rfl rfl; exact (fun _ hcl => c_RSame x y _ ((H.ext hcl).memF hF) hxs hys))
      | ((with_reducible apply OX.call); exact rfl; exact rfl; exact En.fn ent12 rfl rfl; exact c_awake _; intro w hcl; replace H := H.ext hcl; clear hcl)
      | ((with_reducible apply QX.call); exact rfl; exact rfl; exact En.fn ent12 rfl rfl; exact (fun _ hcl => c_awake _))
      | ((with_reducible apply OX.callM); exact rfl; exact rfl; exact En.fn ent16 rfl rfl; exact (c_isT x w0 _ (H.perm (perm3 (_ :: _ :: _ :: _ :: []) M1 M2 M3)) hF hO2 (by omega) (hxs.mono (List.subset_append_right _ _))); intro v Mx w hR H; obtain ⟨rfl, M', rfl⟩ := hR; replace H := H.sub (List.sublist_append_right M' _))
      | ((with_reducible apply OW.gY); exact rfl; exact rfl; exact rfl)
      | ((with_reducible apply OW.gN); exact rfl; exact rfl; exact rfl; exact rfl; exact rfl)
      | ((with_reducible apply QW.gY); exact rfl; exact rfl; exact rfl)
      | ((with_reducible apply QW.gN); exact rfl; exact rfl; exact rfl; exact rfl; exact rfl)
      | ((with_reducible apply OW.gS); exact rfl; exact rfl; exact rfl; all_goals (intro h; try (exfalso; first | (simp at h; done))))
      | ((with_reducible apply QW.gS); exact rfl; exact rfl; exact rfl; all_goals (intro h; try (exfalso; first | (simp at h; done))))
      | with_reducible apply OW.app
      | with_reducible apply OW.app0
      | with_reducible apply QW.app
      | with_reducible apply QW.app0
      | with_reducible apply OW.nil
      | ((with_reducible apply QW.nil); intro w hcl; replace H := H.ext hcl; clear hcl)
      | ((with_reducible apply RW.one); exact rfl; decide +kernel)
      | with_reducible apply thn_n
      | with_reducible apply CW.seq
      | with_reducible apply CW.region
      | with_reducible apply CW.block
      | with_reducible apply CW.ret
      | with_reducible apply CW.exit
      | with_reducible apply CW.skip
      | with_reducible apply thn_r
      | with_reducible apply thn_e
      | with_reducible apply blk_n
      | with_reducible apply blk_r
      | ((with_reducible apply blk_e1); exact rfl)
      | ((with_reducible apply blk_e0); exact rfl)
      | ((with_reducible apply CW.condT); exact rfl)
      | ((with_reducible apply CW.condF); exact rfl))
  all_goals exact ret1 rfl H.cl rfl
section
open Go.ChangeShapes
variable {H : Type} {enc : TypeId × Value → H} {P : Program} {w : World} {base : Nat} {spare : Nat → Bool} {held : Bool}
theorem trodAll_five {t t' t'' t3 t4 : TypeId} {args : Array Value} {ds : List (DataW H)} {ps : List MemPlace} (h : DataW.TrodAll enc P w base spare held [t, t', t'', t3, t4] args.toList ds ps) :
    ∃ v v' v'' v3 v4 d d' d'' d3 d4 p p' p'' p3 p4, args = #[v, v', v'', v3, v4] ∧ ds = [d, d', d'', d3, d4] ∧ ps = p ++ p' ++ p'' ++ p3 ++ p4 ∧ DataW.Trod enc P w base spare held t v d p ∧ DataW.Trod enc P w base spare held t' v' d' p' ∧ DataW.Trod enc P w base spare held t'' v'' d'' p'' ∧ DataW.Trod enc P w base spare held t3 v3 d3 p3 ∧ DataW.Trod enc P w base spare held t4 v4 d4 p4 := by
  obtain ⟨v, vs, d, ds', p, q, hargs, rfl, rfl, hd, hrest⟩ := trodAll_cons h
  obtain ⟨v', vs', d', ds2, p', q', rfl, rfl, rfl, hd', hrest'⟩ := trodAll_cons hrest
  obtain ⟨v'', vs'', d'', ds3, p'', q'', rfl, rfl, rfl, hd'', hrest''⟩ := trodAll_cons hrest'
  obtain ⟨v3, vs3, d3, ds4, p3, q3, rfl, rfl, rfl, hd3, hrest3⟩ := trodAll_cons hrest''
  obtain ⟨v4, vs4, d4, ds5, p4, q4, rfl, rfl, rfl, hd4, hrest4⟩ := trodAll_cons hrest3
  obtain ⟨rfl, rfl, rfl⟩ := trodAll_nil hrest4
  exact ⟨v, v', v'', v3, v4, d, d', d'', d3, d4, p, p', p'', p3, p4, by cases args; simp_all, rfl, by simp, hd, hd', hd'', hd3, hd4⟩
end
end Go.Proofs.Ytkcoemikglbomaa
