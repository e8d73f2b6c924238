/- The law AuctionRow, walked. -/
import Derived.Test.YtkcoemikglbomaaP5
import Derived.Test.YtkcoemikglbomaaL1
import Derived.Test.YtkcoemikglbomaaR1
set_option linter.unusedSimpArgs false
set_option linter.unusedVariables false
namespace Go.Proofs.Ytkcoemikglbomaa
open Go Go.Sk Go.RowKit
attribute [local irreducible] Go.Calls
structure Rw where
  k : Nat
  a : Option Addr
  cap : Nat
  M : Frag
set_option maxRecDepth 20000 in
set_option maxHeartbeats 8000000 in
theorem c_RowLaw {al : Option Addr} {capl : Nat} (l : List Auc) (ad : Nat → Option Addr × Nat) (clock later : Int) (w0 : World) (hl : AucsW w0 al capl l ad) :
    Calls Try.prog 8 [.slice al l.length capl, .int .i64 clock, .int .i64 later].toArray w0 (Ret (.bool true) w0) := by
  have hF : Mem w0 (allF w0) := allF_mem w0
  obtain ⟨hnc, ⟨b0, off0, cs0, T0, fr0, hs0⟩, hbs0⟩ := hl
  obtain ⟨mn, hmn⟩ : ∃ b, manyF l = b := ⟨_, rfl⟩
  have manyX : ∀ {w : World}, Mem w (allF w0) → Calls Try.prog 19 [.slice al l.length capl].toArray w (Ret (.bool mn) w) := fun hF => hmn ▸ c_many l ad _ hF hs0
  refine enter [.tmp 6] Try.func8 rfl Try.ntmps8 rfl rfl ?_
  have H := St.start w0
  repeat' (first | refine y1 sg ?_ | refine y2 sg ?_ | refine y3 ?_ | refine y4 ?_ | refine y5 sg ?_ | refine y6 sg ?_ | refine y7 sg H ?_ | refine y8 sg H ?_ | (refine y9 H ?_; intro b w H) | (refine y10 sg H ?_; intro b w H) | (refine y11 sg H ?_; intro w H) | refine y12 ?_ | (refine' y30 ent12 ?_ ?_; rotate_left; exact c_awake _; intro w hcl; replace H := H.ext hcl; clear hcl) | (refine' y31 ent12 ?_ ?_; rotate_left; exact (fun _ hcl => c_awake _)) | (refine' y30 ent19 ?_ ?_; rotate_left; exact manyX (H.memF hF); intro w hcl; replace H := H.ext hcl; clear hcl) | (refine' y31 ent19 ?_ ?_; rotate_left; exact (fun _ hcl => manyX ((H.ext hcl).memF hF))) | refine y13 ?_ | refine y14 ?_ | refine y15 ?_ | refine y16 ?_ | (refine y17 ?_ ?_; all_goals intro h) | (refine y18 ?_ ?_; all_goals intro h) | with_reducible apply OW.app | with_reducible apply OW.app0 | with_reducible apply QW.app | with_reducible apply QW.app0 | with_reducible apply OW.nil | (with_reducible apply QW.nil; intro w hcl; replace H := H.ext hcl; clear hcl) | refine y19 ?_ | with_reducible apply thn_n | with_reducible apply CW.seq | with_reducible apply CW.region | refine y20 mixed ?_ | with_reducible apply CW.block | with_reducible apply CW.ret | with_reducible apply CW.exit | with_reducible apply CW.skip | with_reducible apply thn_r | with_reducible apply thn_e | with_reducible apply blk_n | with_reducible apply blk_r | refine y24 ?_ | refine y25 ?_ | refine y21 ?_ | refine y22 ?_ | (refine y23 ?_ ?_; all_goals intro h) | fail)
  · exact ret1 rfl H.cl rfl
  obtain rfl : mn = false := ‹mn = false›
  obtain ⟨hn1, hn2⟩ := many_no hmn
  have hls : Aucs (allF w0) al capl l ad := ⟨SlA.of hnc (by omega) hs0, fun j hj => hbs0 j hj (by have := hn2 j hj; omega)⟩
  clear manyX hbs0
  obtain ⟨ma, hma⟩ : ∃ b, mayAllF l = b := ⟨_, rfl⟩
  have mayX : ∀ {w : World}, Mem w (allF w0) → Calls Try.prog 32 [.slice al l.length capl].toArray w (Ret (.bool ma) w) := fun hF => hma ▸ c_MayAll l ad _ hF hls
  repeat' (first | refine y1 sg ?_ | refine y2 sg ?_ | refine y3 ?_ | refine y4 ?_ | refine y5 sg ?_ | refine y6 sg ?_ | refine y7 sg H ?_ | refine y8 sg H ?_ | (refine y9 H ?_; intro b w H) | (refine y10 sg H ?_; intro b w H) | (refine y11 sg H ?_; intro w H) | refine y12 ?_ | (refine' y32 ent29 ?_ ?_; rotate_left; exact c_RowA l ad clock _ (H.memF hF) hls; intro v M w hR hS; replace H := H.addR hS; clear hS; (try simp only [List.cons_append, List.nil_append] at H); obtain ⟨r, ar, capr, hr, rfl, hO⟩ := hR) | (refine' y30 ent32 ?_ ?_; rotate_left; exact mayX (H.memF hF); intro w hcl; replace H := H.ext hcl; clear hcl) | (refine' y31 ent32 ?_ ?_; rotate_left; exact (fun _ hcl => mayX ((H.ext hcl).memF hF))) | refine y13 ?_ | refine y14 ?_ | refine y15 ?_ | refine y16 ?_ | (refine y17 ?_ ?_; all_goals intro h) | (refine y18 ?_ ?_; all_goals intro h) | with_reducible apply OW.app | with_reducible apply OW.app0 | with_reducible apply QW.app | with_reducible apply QW.app0 | with_reducible apply OW.nil | (with_reducible apply QW.nil; intro w hcl; replace H := H.ext hcl; clear hcl) | refine y19 ?_ | with_reducible apply thn_n | with_reducible apply CW.seq | with_reducible apply CW.region | refine y20 mixed ?_ | with_reducible apply CW.block | with_reducible apply CW.ret | with_reducible apply CW.exit | with_reducible apply CW.skip | with_reducible apply thn_r | with_reducible apply thn_e | with_reducible apply blk_n | with_reducible apply blk_r | refine y24 ?_ | refine y25 ?_ | refine y21 ?_ | refine y22 ?_ | fail)
  cases ma with
  | false =>
    obtain rfl : r = [] := by
      rcases hr with ⟨h0, _⟩ | ⟨_, h1⟩
      · rw [hma] at h0; cases h0
      · exact h1
    repeat' (first | refine y1 sg ?_ | refine y2 sg ?_ | refine y3 ?_ | refine y4 ?_ | refine y5 sg ?_ | refine y6 sg ?_ | refine y7 sg H ?_ | refine y8 sg H ?_ | (refine y9 H ?_; intro b w H) | (refine y10 sg H ?_; intro b w H) | (refine y11 sg H ?_; intro w H) | refine y12 ?_ | refine y13 ?_ | refine y14 ?_ | refine y15 ?_ | refine y16 ?_ | (refine y17 ?_ ?_; all_goals intro h) | (refine y18 ?_ ?_; all_goals intro h) | with_reducible apply OW.app | with_reducible apply OW.app0 | with_reducible apply QW.app | with_reducible apply QW.app0 | with_reducible apply OW.nil | (with_reducible apply QW.nil; intro w hcl; replace H := H.ext hcl; clear hcl) | refine y19 ?_ | with_reducible apply thn_n | with_reducible apply CW.seq | with_reducible apply CW.region | refine y20 mixed ?_ | with_reducible apply CW.block | with_reducible apply CW.ret | with_reducible apply CW.exit | with_reducible apply CW.skip | with_reducible apply thn_r | with_reducible apply thn_e | with_reducible apply blk_n | with_reducible apply blk_r | refine y24 ?_ | refine y25 ?_ | refine y21 ?_ | refine y22 ?_ | fail)
    exact ret1 rfl H.cl rfl
  | true =>
  obtain ⟨h32, hmay, hasc⟩ := mayAll_id hma
  have hrl := hr.len hma
  have hr32 : r.length ≤ 32 := by have := dueN_le l clock l.length; omega
  have hN : Nums M ar capr (r.map (·.id)) := hO.nums (fun _ h => h) (by rw [List.length_map]; omega)
  have hrlm : (r.map (·.id)).length = r.length := List.length_map _
  repeat' (first | refine y1 sg ?_ | refine y2 sg ?_ | refine y3 ?_ | refine y4 ?_ | refine y5 sg ?_ | refine y6 sg ?_ | refine y7 sg H ?_ | refine y8 sg H ?_ | (refine y9 H ?_; intro b w H) | (refine y10 sg H ?_; intro b w H) | (refine y11 sg H ?_; intro w H) | refine y12 ?_ | refine y13 ?_ | refine y14 ?_ | refine y15 ?_ | refine y16 ?_ | (refine y17 ?_ ?_; all_goals intro h) | (refine y18 ?_ ?_; all_goals intro h) | with_reducible apply OW.app | with_reducible apply OW.app0 | with_reducible apply QW.app | with_reducible apply QW.app0 | with_reducible apply OW.nil | (with_reducible apply QW.nil; intro w hcl; replace H := H.ext hcl; clear hcl) | refine y19 ?_ | with_reducible apply thn_n | with_reducible apply CW.seq | with_reducible apply CW.region | refine y20 mixed ?_ | with_reducible apply CW.block | with_reducible apply CW.ret | with_reducible apply CW.exit | with_reducible apply CW.skip | with_reducible apply thn_r | with_reducible apply thn_e | with_reducible apply blk_n | with_reducible apply blk_r | refine y24 ?_ | refine y25 ?_ | refine y21 ?_ | refine y22 ?_ | fail)
  refine CW.loopI [(6, 6), (8, 9), (31, 59)] (fun k : Nat => [(8, .int .i64 (dueN l clock k : Int)), (9, .int .i64 (k : Int))]) (fun k w => k ≤ l.length ∧ St w0 M w) (fun k => l.length - k) 0 ⟨rfl, rfl, trivial⟩ ⟨Nat.zero_le _, H⟩ ?_
  clear H
  rintro k gh w ⟨hk, H⟩
  repeat' (first | refine y1 sg ?_ | refine y2 sg ?_ | refine y3 ?_ | refine y4 ?_ | refine y5 sg ?_ | refine y6 sg ?_ | refine y7 sg H ?_ | refine y8 sg H ?_ | (refine y9 H ?_; intro b w H) | (refine y10 sg H ?_; intro b w H) | (refine y11 sg H ?_; intro w H) | refine y12 ?_ | refine y13 ?_ | refine y14 ?_ | refine y15 ?_ | refine y16 ?_ | (refine y17 ?_ ?_; all_goals intro h) | (refine y18 ?_ ?_; all_goals intro h) | with_reducible apply OW.app | with_reducible apply OW.app0 | with_reducible apply QW.app | with_reducible apply QW.app0 | with_reducible apply OW.nil | (with_reducible apply QW.nil; intro w hcl; replace H := H.ext hcl; clear hcl) | refine y19 ?_ | with_reducible apply thn_n | with_reducible apply CW.seq | with_reducible apply CW.region | refine y20 mixed ?_ | with_reducible apply CW.block | with_reducible apply CW.ret | with_reducible apply CW.exit | with_reducible apply CW.skip | with_reducible apply thn_r | with_reducible apply thn_e | with_reducible apply blk_n | with_reducible apply blk_r | refine y24 ?_ | refine y25 ?_ | refine y21 ?_ | refine y22 ?_ | fail)
  refine CW.cond rfl (fun h => ?_) (fun h => ?_)
  · have hlt : k < l.length := by have := of_decide_eq_true h; omega
    clear h
    have hdue : dueF (l.getD k default) clock = decide ((l.getD k default).fin ≤ clock) := by unfold dueF; rw [hmay k hlt, Bool.true_and]
    have due : ∀ {w : World}, Mem w (allF w0) → Calls Try.prog 26 [.agg (ael l ad k).toArray, .int .i64 clock].toArray w (Ret (.bool (decide ((l.getD k default).fin ≤ clock))) w) := fun hF => hdue ▸ c_Due (l.getD k default) clock _ hF (hls.2 k hlt)
    have hd1 := dueN_succ l clock k
    have hd2 := dueN_le l clock k
    repeat' (first | refine y1 sg ?_ | refine y2 sg ?_ | refine y3 ?_ | refine y4 ?_ | refine y5 sg ?_ | refine y6 sg ?_ | refine y7 sg H ?_ | refine y8 sg H ?_ | (refine y9 H ?_; intro b w H) | (refine y10 sg H ?_; intro b w H) | (refine y11 sg H ?_; intro w H) | refine y12 ?_ | (refine y40 sg (hs0) ?_ ?_ ?_; (omega); (omega)) | (refine y41 sg (hs0) ?_ ?_ ?_; (omega); (omega)) | (refine y42 sg (hs0) ((H.memF hF)) ?_ ?_; (omega)) | (refine y43 sg (hs0) ((H.memF hF)) ?_ ?_; (omega)) | (refine y44 sg (hs0) ((H.memF hF)) ?_ ?_; (omega)) | (refine y45 sg (hs0) ((H.memF hF)) ?_ ?_; (omega)) | (refine' y30 ent26 ?_ ?_; rotate_left; exact due (H.memF hF); intro w hcl; replace H := H.ext hcl; clear hcl) | (refine' y31 ent26 ?_ ?_; rotate_left; exact (fun _ hcl => due ((H.ext hcl).memF hF))) | refine y13 ?_ | refine y14 ?_ | refine y15 ?_ | refine y16 ?_ | (refine y17 ?_ ?_; all_goals (intro h; try (exfalso; first | (simp at h; done)))) | (refine y18 ?_ ?_; all_goals (intro h; try (exfalso; first | (simp at h; done)))) | with_reducible apply OW.app | with_reducible apply OW.app0 | with_reducible apply QW.app | with_reducible apply QW.app0 | with_reducible apply OW.nil | (with_reducible apply QW.nil; intro w hcl; replace H := H.ext hcl; clear hcl) | refine y19 ?_ | with_reducible apply thn_n | with_reducible apply CW.seq | with_reducible apply CW.region | refine y20 mixed ?_ | with_reducible apply CW.block | with_reducible apply CW.ret | with_reducible apply CW.exit | with_reducible apply CW.skip | with_reducible apply thn_r | with_reducible apply thn_e | with_reducible apply blk_n | with_reducible apply blk_r | refine y24 ?_ | refine y25 ?_ | refine y21 ?_ | refine y22 ?_ | (refine y23 ?_ ?_; all_goals (intro h; try (exfalso; first | (simp at h; done)))) | fail)
    · have h1 : (l.getD k default).fin ≤ clock := of_decide_eq_true h
      rw [if_pos h1] at hd1
      exact Again.mk (k + 1) rfl ⟨by rw [hd1]; exact vsucc (by omega), vsucc (by omega), trivial⟩ ⟨hlt, H⟩ (by omega)
    · have h1 : ¬ (l.getD k default).fin ≤ clock := of_decide_eq_false h
      rw [if_neg h1, Nat.add_zero] at hd1
      exact Again.mk (k + 1) rfl ⟨by rw [hd1]; rfl, vsucc (by omega), trivial⟩ ⟨hlt, H⟩ (by omega)
  obtain rfl : k = l.length := by have := of_decide_eq_false h; omega
  clear h
  repeat' (first | refine y1 sg ?_ | refine y2 sg ?_ | refine y3 ?_ | refine y4 ?_ | refine y5 sg ?_ | refine y6 sg ?_ | refine y7 sg H ?_ | refine y8 sg H ?_ | (refine y9 H ?_; intro b w H) | (refine y10 sg H ?_; intro b w H) | (refine y11 sg H ?_; intro w H) | refine y12 ?_ | refine y13 ?_ | refine y14 ?_ | refine y15 ?_ | refine y16 ?_ | (refine y17 ?_ ?_; all_goals intro h) | (refine y18 ?_ ?_; all_goals intro h) | with_reducible apply OW.app | with_reducible apply OW.app0 | with_reducible apply QW.app | with_reducible apply QW.app0 | with_reducible apply OW.nil | (with_reducible apply QW.nil; intro w hcl; replace H := H.ext hcl; clear hcl) | refine y19 ?_ | with_reducible apply thn_n | with_reducible apply CW.seq | with_reducible apply CW.region | refine y20 mixed ?_ | with_reducible apply CW.block | with_reducible apply CW.ret | with_reducible apply CW.exit | with_reducible apply CW.skip | with_reducible apply thn_r | with_reducible apply thn_e | with_reducible apply blk_n | with_reducible apply blk_r | refine y24 ?_ | refine y25 ?_ | refine y21 ?_ | refine y22 ?_ | fail)
  refine CW.cond rfl (fun h => ?_) (fun h => ?_)
  · rw [hrl] at h; simp at h
  clear h
  repeat' (first | refine y1 sg ?_ | refine y2 sg ?_ | refine y3 ?_ | refine y4 ?_ | refine y5 sg ?_ | refine y6 sg ?_ | refine y7 sg H ?_ | refine y8 sg H ?_ | (refine y9 H ?_; intro b w H) | (refine y10 sg H ?_; intro b w H) | (refine y11 sg H ?_; intro w H) | refine y12 ?_ | refine y13 ?_ | refine y14 ?_ | refine y15 ?_ | refine y16 ?_ | (refine y17 ?_ ?_; all_goals intro h) | (refine y18 ?_ ?_; all_goals intro h) | with_reducible apply OW.app | with_reducible apply OW.app0 | with_reducible apply QW.app | with_reducible apply QW.app0 | with_reducible apply OW.nil | (with_reducible apply QW.nil; intro w hcl; replace H := H.ext hcl; clear hcl) | refine y19 ?_ | with_reducible apply thn_n | with_reducible apply CW.seq | with_reducible apply CW.region | refine y20 mixed ?_ | with_reducible apply CW.block | with_reducible apply CW.ret | with_reducible apply CW.exit | with_reducible apply CW.skip | with_reducible apply thn_r | with_reducible apply thn_e | with_reducible apply blk_n | with_reducible apply blk_r | refine y24 ?_ | refine y25 ?_ | refine y21 ?_ | refine y22 ?_ | fail)
  refine CW.loopI [(6, 6), (11, 13), (64, 108)] (fun x : Rw => [(11, .int .i64 (x.k : Int))])
    (fun x w => x.k ≤ r.length ∧ St w0 (cb b ((lastR r x.k).cells x.a x.cap) 24 :: M) w) (fun x => r.length - x.k) ⟨0, none, 0, []⟩ ⟨rfl, trivial⟩ ⟨Nat.zero_le _, H⟩ ?_
  clear H
  rintro ⟨k, a1, cap1, M1⟩ gh w ⟨hk, H⟩
  simp only at hk H ⊢
  repeat' (first | refine y1 sg ?_ | refine y2 sg ?_ | refine y3 ?_ | refine y4 ?_ | refine y5 sg ?_ | refine y6 sg ?_ | refine y7 sg H ?_ | refine y8 sg H ?_ | (refine y9 H ?_; intro b w H) | (refine y10 sg H ?_; intro b w H) | (refine y11 sg H ?_; intro w H) | refine y12 ?_ | refine y13 ?_ | refine y14 ?_ | refine y15 ?_ | refine y16 ?_ | (refine y17 ?_ ?_; all_goals intro h) | (refine y18 ?_ ?_; all_goals intro h) | with_reducible apply OW.app | with_reducible apply OW.app0 | with_reducible apply QW.app | with_reducible apply QW.app0 | with_reducible apply OW.nil | (with_reducible apply QW.nil; intro w hcl; replace H := H.ext hcl; clear hcl) | refine y19 ?_ | with_reducible apply thn_n | with_reducible apply CW.seq | with_reducible apply CW.region | refine y20 mixed ?_ | with_reducible apply CW.block | with_reducible apply CW.ret | with_reducible apply CW.exit | with_reducible apply CW.skip | with_reducible apply thn_r | with_reducible apply thn_e | with_reducible apply blk_n | with_reducible apply blk_r | refine y24 ?_ | refine y25 ?_ | refine y21 ?_ | refine y22 ?_ | fail)
  refine CW.cond rfl (fun h => ?_) (fun h => ?_)
  · have hlt : k < r.length := by have := of_decide_eq_true h; omega
    clear h
    have hx : r.getD k default ∈ r := by rw [List.getD_eq_getElem?_getD, List.getElem?_eq_getElem hlt]; exact List.getElem_mem hlt
    obtain ⟨hxl, hxd⟩ := hr.mem hma hx
    have hlast := last_lt hr hma hlt
    have hl2 : lastR r (k + 1) = r.getD k default := by unfold lastR; rw [if_neg (by omega)]; rfl
    generalize hgx : r.getD k default = x at *
    have hgm := getF_mem hma hxl
    have hxn : x.bids.length ≤ 1000 := by obtain ⟨j, hj, rfl⟩ := mem_getD hxl; exact hn2 j hj
    have hid : (r.map (·.id)).getD k 0 = x.id := by rw [← hgx]; simp [List.getD_eq_getElem?_getD, hlt]
    obtain ⟨_, _, bn, offn, csn, Tn, frn, hsn⟩ := hN
    rw [hrlm] at hsn
    have get : ∀ {w : World}, Mem w (allF w0) → Calls Try.prog 33 [.slice al l.length capl, .int .i64 ((r.map (·.id)).getD k 0)].toArray w (RetF (fun M v => ∃ u, OwnA x M u ∧ v = .tuple #[u, .bool true]) w) := fun hF => by
      have := c_Get l ad x.id _ hF hls (fun j hj => by have := hn2 j hj; omega)
      rw [hgm] at this
      rw [hid]
      exact this
    generalize hL : lastR r k = la at *
    have e1 : decide (x.fin < la.fin) = false := by unfold ltA at hlast; exact decide_eq_false (by omega)
    have hO0 := hO
    repeat' (first | refine y1 sg ?_ | refine y2 sg ?_ | refine y3 ?_ | refine y4 ?_ | refine y5 sg ?_ | refine y6 sg ?_ | refine y7 sg H ?_ | refine y8 sg H ?_ | (refine y9 H ?_; intro b w H) | (refine y10 sg H ?_; intro b w H) | (refine y11 sg H ?_; intro w H) | refine y12 ?_ | (refine y40 sg (hsn) ?_ ?_ ?_; (omega); (omega)) | (refine y41 sg (hsn) ?_ ?_ ?_; (omega); (omega)) | (refine y46 sg (hsn) ((H.mem.sub (List.subset_cons_self _ _))) ?_ ?_; (omega)) | (refine y47 sg (hsn) ((H.mem.sub (List.subset_cons_self _ _))) ?_ ?_; (omega)) | (refine' y32 ent33 ?_ ?_; rotate_left; exact get (H.memF hF); intro v M2 w hR hS; replace H := H.addR hS; clear hS; (try simp only [List.cons_append, List.nil_append] at H); obtain ⟨u, ⟨a2, cap2, rfl, hO2⟩, rfl⟩ := hR) | (refine' y30 ent26 ?_ ?_; rotate_left; exact c_Due x clock _ (H.mem) (hO2.bids (by intro p hp; repeat (first | exact hp | exact List.mem_append_right _ hp | exact List.mem_append_left _ hp | exact List.mem_append_left _ (List.mem_append_right _ hp) | exact List.mem_append_left _ (List.mem_append_left _ hp) | apply List.mem_cons_of_mem | apply List.mem_append_left)) (by omega)); intro w hcl; replace H := H.ext hcl; clear hcl) | (refine' y31 ent26 ?_ ?_; rotate_left; exact (fun _ hcl => c_Due x clock _ ((H.ext hcl).mem) (hO2.bids (by intro p hp; repeat (first | exact hp | exact List.mem_append_right _ hp | exact List.mem_append_left _ hp | exact List.mem_append_left _ (List.mem_append_right _ hp) | exact List.mem_append_left _ (List.mem_append_left _ hp) | apply List.mem_cons_of_mem | apply List.mem_append_left)) (by omega)))) | refine y13 ?_ | refine y14 ?_ | refine y15 ?_ | refine y16 ?_ | (refine y17 ?_ ?_; all_goals (intro h; try (exfalso; first | (simp at h; done) | ((rw [hxd] at h; cases h); done) | ((rw [e1] at h; cases h); done) | ((unfold ltA at hlast; have h8 := eqI ‹(x.fin == la.fin) = true›; have h9 := of_decide_eq_true h; omega); done)))) | (refine y18 ?_ ?_; all_goals (intro h; try (exfalso; first | (simp at h; done) | ((rw [hxd] at h; cases h); done) | ((rw [e1] at h; cases h); done) | ((unfold ltA at hlast; have h8 := eqI ‹(x.fin == la.fin) = true›; have h9 := of_decide_eq_true h; omega); done)))) | with_reducible apply OW.app | with_reducible apply OW.app0 | with_reducible apply QW.app | with_reducible apply QW.app0 | with_reducible apply OW.nil | (with_reducible apply QW.nil; intro w hcl; replace H := H.ext hcl; clear hcl) | refine y19 ?_ | with_reducible apply thn_n | with_reducible apply CW.seq | with_reducible apply CW.region | refine y20 mixed ?_ | with_reducible apply CW.block | with_reducible apply CW.ret | with_reducible apply CW.exit | with_reducible apply CW.skip | with_reducible apply thn_r | with_reducible apply thn_e | with_reducible apply blk_n | with_reducible apply blk_r | refine y24 ?_ | refine y25 ?_ | refine y21 ?_ | refine y22 ?_ | (refine y23 ?_ ?_; all_goals (intro h; try (exfalso; first | (simp at h; done) | ((rw [hxd] at h; cases h); done) | ((rw [e1] at h; cases h); done) | ((unfold ltA at hlast; have h8 := eqI ‹(x.fin == la.fin) = true›; have h9 := of_decide_eq_true h; omega); done)))) | fail)
    all_goals
      rw [← hl2] at H
      exact Again.mk ⟨k + 1, a2, cap2, []⟩ rfl ⟨vsucc (by omega), trivial⟩ ⟨hlt, H.sub (by repeat (first | exact List.Sublist.refl _ | exact List.sublist_append_left _ _ | apply List.Sublist.cons_cons | apply List.Sublist.cons))⟩ (by show r.length - (k + 1) < r.length - k; omega)
  obtain rfl : k = r.length := by have := of_decide_eq_false h; omega
  clear h
  replace H := H.sub (List.sublist_cons_self _ _)
  repeat' (first | refine y1 sg ?_ | refine y2 sg ?_ | refine y3 ?_ | refine y4 ?_ | refine y5 sg ?_ | refine y6 sg ?_ | refine y7 sg H ?_ | refine y8 sg H ?_ | (refine y9 H ?_; intro b w H) | (refine y10 sg H ?_; intro b w H) | (refine y11 sg H ?_; intro w H) | refine y12 ?_ | (refine' y32 ent29 ?_ ?_; rotate_left; exact c_RowA l ad later _ (H.memF hF) hls; intro v M2 w hR hS; replace H := H.addR hS; clear hS; (try simp only [List.cons_append, List.nil_append] at H); obtain ⟨r2, ar2, capr2, hr2, rfl, hO2⟩ := hR) | refine y13 ?_ | refine y14 ?_ | refine y15 ?_ | refine y16 ?_ | (refine y17 ?_ ?_; all_goals intro h) | (refine y18 ?_ ?_; all_goals intro h) | with_reducible apply OW.app | with_reducible apply OW.app0 | with_reducible apply QW.app | with_reducible apply QW.app0 | with_reducible apply OW.nil | (with_reducible apply QW.nil; intro w hcl; replace H := H.ext hcl; clear hcl) | refine y19 ?_ | with_reducible apply thn_n | with_reducible apply CW.seq | with_reducible apply CW.region | refine y20 mixed ?_ | with_reducible apply CW.block | with_reducible apply CW.ret | with_reducible apply CW.exit | with_reducible apply CW.skip | with_reducible apply thn_r | with_reducible apply thn_e | with_reducible apply blk_n | with_reducible apply blk_r | refine y24 ?_ | refine y25 ?_ | refine y21 ?_ | refine y22 ?_ | fail)
  have hrl2 := hr2.len hma
  have hr232 : r2.length ≤ 32 := by have := dueN_le l later l.length; omega
  have hrlm2 : (r2.map (·.id)).length = r2.length := List.length_map _
  have hN1 : Nums (M ++ M2) ar capr (r.map (·.id)) := hO.nums (List.subset_append_left _ _) (by rw [List.length_map]; omega)
  have hN2 : Nums (M ++ M2) ar2 capr2 (r2.map (·.id)) := hO2.nums (List.subset_append_right _ _) (by rw [List.length_map]; omega)
  have hc1 : r.length ≤ capr := by have := hN1.1; omega
  have hc2 : r2.length ≤ capr2 := by have := hN2.1; omega
  have num1 : ∀ {w : World}, later < clock → Mem w (M ++ M2) → Calls Try.prog 30 [.slice ar r2.length capr, .slice ar2 r2.length capr2].toArray w (Ret (.bool true) w) := fun hc hM => by
    obtain ⟨q1, q2⟩ := hr2.pre hma hr (Int.le_of_lt hc)
    have hl : ((r.map (·.id)).take r2.length).length = r2.length := by rw [List.length_take, hrlm, Nat.min_eq_left q2]
    have := c_Numbers _ _ _ hM (hN1.take (k := r2.length) (by omega)) hN2
    rw [hl, hrlm2, ← List.map_take, ← q1, decide_eq_true rfl] at this
    exact this
  have num2 : ∀ {w : World}, ¬ later < clock → Mem w (M ++ M2) → Calls Try.prog 30 [.slice ar2 r.length capr2, .slice ar r.length capr].toArray w (Ret (.bool true) w) := fun hc hM => by
    obtain ⟨q1, q2⟩ := hr.pre hma hr2 (by omega)
    have hl : ((r2.map (·.id)).take r.length).length = r.length := by rw [List.length_take, hrlm2, Nat.min_eq_left q2]
    have := c_Numbers _ _ _ hM (hN2.take (k := r.length) (by omega)) hN1
    rw [hl, hrlm, ← List.map_take, ← q1, decide_eq_true rfl] at this
    exact this
  repeat' (first | refine y1 sg ?_ | refine y2 sg ?_ | refine y3 ?_ | refine y4 ?_ | refine y5 sg ?_ | refine y6 sg ?_ | refine y7 sg H ?_ | refine y8 sg H ?_ | (refine y9 H ?_; intro b w H) | (refine y10 sg H ?_; intro b w H) | (refine y11 sg H ?_; intro w H) | refine y12 ?_ | refine y13 ?_ | refine y14 ?_ | refine y15 ?_ | refine y16 ?_ | (refine y17 ?_ ?_; all_goals intro h) | (refine y18 ?_ ?_; all_goals intro h) | with_reducible apply OW.app | with_reducible apply OW.app0 | with_reducible apply QW.app | with_reducible apply QW.app0 | with_reducible apply OW.nil | (with_reducible apply QW.nil; intro w hcl; replace H := H.ext hcl; clear hcl) | refine y19 ?_ | with_reducible apply thn_n | with_reducible apply CW.seq | with_reducible apply CW.region | refine y20 mixed ?_ | with_reducible apply CW.block | with_reducible apply CW.ret | with_reducible apply CW.exit | with_reducible apply CW.skip | with_reducible apply thn_r | with_reducible apply thn_e | with_reducible apply blk_n | with_reducible apply blk_r | refine y24 ?_ | refine y25 ?_ | refine y21 ?_ | refine y22 ?_ | fail)
  refine CW.cond rfl (fun h => ?_) (fun h => ?_)
  · have hc : later < clock := of_decide_eq_true h
    obtain ⟨q1, q2⟩ := hr2.pre hma hr (Int.le_of_lt hc)
    have hle : decide ((r2.length : Int) ≤ r.length) = true := decide_eq_true (by omega)
    repeat' (first | refine y1 sg ?_ | refine y2 sg ?_ | refine y3 ?_ | refine y4 ?_ | refine y5 sg ?_ | refine y6 sg ?_ | refine y7 sg H ?_ | refine y8 sg H ?_ | (refine y9 H ?_; intro b w H) | (refine y10 sg H ?_; intro b w H) | (refine y11 sg H ?_; intro w H) | refine y12 ?_ | (refine OX.val rfl rfl (Yq.sliceHi sg rfl rfl rfl rfl rfl rfl (Int.toNat_natCast _) (by omega) (by omega)) ?_) | (refine' y30 ent30 ?_ ?_; rotate_left; exact num1 hc (H.mem); intro w hcl; replace H := H.ext hcl; clear hcl) | (refine' y31 ent30 ?_ ?_; rotate_left; exact (fun _ hcl => num1 hc ((H.ext hcl).mem))) | refine y13 ?_ | refine y14 ?_ | refine y15 ?_ | refine y16 ?_ | (refine y17 ?_ ?_; all_goals (intro h; try (exfalso; first | ((rw [hle] at h; cases h); done)))) | (refine y18 ?_ ?_; all_goals (intro h; try (exfalso; first | ((rw [hle] at h; cases h); done)))) | with_reducible apply OW.app | with_reducible apply OW.app0 | with_reducible apply QW.app | with_reducible apply QW.app0 | with_reducible apply OW.nil | (with_reducible apply QW.nil; intro w hcl; replace H := H.ext hcl; clear hcl) | refine y19 ?_ | with_reducible apply thn_n | with_reducible apply CW.seq | with_reducible apply CW.region | refine y20 mixed ?_ | with_reducible apply CW.block | with_reducible apply CW.ret | with_reducible apply CW.exit | with_reducible apply CW.skip | with_reducible apply thn_r | with_reducible apply thn_e | with_reducible apply blk_n | with_reducible apply blk_r | refine y24 ?_ | refine y25 ?_ | refine y21 ?_ | refine y22 ?_ | (refine y23 ?_ ?_; all_goals (intro h; try (exfalso; first | ((rw [hle] at h; cases h); done)))) | fail)
    exact ret1 rfl H.cl rfl
  · have hc : ¬ later < clock := of_decide_eq_false h
    obtain ⟨q1, q2⟩ := hr.pre hma hr2 (by omega)
    have hle : decide ((r2.length : Int) ≥ r.length) = true := decide_eq_true (by omega)
    repeat' (first | refine y1 sg ?_ | refine y2 sg ?_ | refine y3 ?_ | refine y4 ?_ | refine y5 sg ?_ | refine y6 sg ?_ | refine y7 sg H ?_ | refine y8 sg H ?_ | (refine y9 H ?_; intro b w H) | (refine y10 sg H ?_; intro b w H) | (refine y11 sg H ?_; intro w H) | refine y12 ?_ | (refine OX.val rfl rfl (Yq.sliceHi sg rfl rfl rfl rfl rfl rfl (Int.toNat_natCast _) (by omega) (by omega)) ?_) | (refine' y30 ent30 ?_ ?_; rotate_left; exact num2 hc (H.mem); intro w hcl; replace H := H.ext hcl; clear hcl) | (refine' y31 ent30 ?_ ?_; rotate_left; exact (fun _ hcl => num2 hc ((H.ext hcl).mem))) | refine y13 ?_ | refine y14 ?_ | refine y15 ?_ | refine y16 ?_ | (refine y17 ?_ ?_; all_goals (intro h; try (exfalso; first | ((rw [hle] at h; cases h); done)))) | (refine y18 ?_ ?_; all_goals (intro h; try (exfalso; first | ((rw [hle] at h; cases h); done)))) | with_reducible apply OW.app | with_reducible apply OW.app0 | with_reducible apply QW.app | with_reducible apply QW.app0 | with_reducible apply OW.nil | (with_reducible apply QW.nil; intro w hcl; replace H := H.ext hcl; clear hcl) | refine y19 ?_ | with_reducible apply thn_n | with_reducible apply CW.seq | with_reducible apply CW.region | refine y20 mixed ?_ | with_reducible apply CW.block | with_reducible apply CW.ret | with_reducible apply CW.exit | with_reducible apply CW.skip | with_reducible apply thn_r | with_reducible apply thn_e | with_reducible apply blk_n | with_reducible apply blk_r | refine y24 ?_ | refine y25 ?_ | refine y21 ?_ | refine y22 ?_ | (refine y23 ?_ ?_; all_goals (intro h; try (exfalso; first | ((rw [hle] at h; cases h); done)))) | fail)
    exact ret1 rfl H.cl rfl
end Go.Proofs.Ytkcoemikglbomaa
