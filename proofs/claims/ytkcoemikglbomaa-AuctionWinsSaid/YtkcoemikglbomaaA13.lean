/- The document's answer to the auction, walked: Top, Winner, Least, Due, Same, Held. -/
import Derived.Test.YtkcoemikglbomaaA12
set_option linter.unusedSimpArgs false
set_option linter.unusedVariables false
namespace Go.Proofs.Ytkcoemikglbomaa
open Go Go.Sk Go.RowKit
attribute [local irreducible] Go.Calls
theorem topF_no {x : Auc} (h : mayF x = false ∨ x.bids.length = 0) : topF x = (Bid.zero, false) := by
  unfold topF
  rw [if_pos]
  rcases h with h | h
  · simp [h]
  · have := hiTo_lt x.bids x.bids.length
    have : hi x.bids = -1 := by unfold hi; rw [h]; rfl
    simp [this]
theorem topF_yes {x : Auc} (h : mayF x = true) (h0 : 0 < x.bids.length) : topF x = (x.bids.getD (hiTo x.bids x.bids.length).toNat default, true) := by
  have := (hiTo_max x.bids x.bids.length h0).1
  unfold topF
  rw [if_neg]
  · rfl
  · simp [h]; exact this
set_option maxRecDepth 20000 in
set_option maxHeartbeats 4000000 in
theorem c_RTop {a : Option Addr} {cap : Nat} (x : Auc) {F : Frag} (w0 : World) (hF : Mem w0 F) (hs0 : Bids F a cap x.bids) :
    Calls Try.prog 22 [.agg (x.cells a cap).toArray].toArray w0 (Ret (.tuple #[.agg (topF x).1.cells.toArray, .bool (topF x).2]) w0) := by
  obtain ⟨hn, hc, b0, off, cs, T, fr, hs⟩ := id hs0
  refine enter [.cell 2 26, .tmp 3] Try.func22 rfl Try.ntmps22 rfl rfl ?_
  have H := St.start w0
  repeat' (first | refine y1 sg ?_ | refine y2 sg ?_ | refine y3 ?_ | refine y4 ?_ | refine y5 sg ?_ | refine y6 sg ?_ | refine y7 sg H ?_ | refine y8 sg H ?_ | (refine y9 H ?_; intro b w H) | (refine y10 sg H ?_; intro b w H) | (refine y11 sg H ?_; intro w H) | refine y12 ?_ | (refine' y30 ent39 ?_ ?_; rotate_left; exact c_RMay x _ (H.memF hF) hs0; intro w hcl; replace H := H.ext hcl; clear hcl) | (refine' y31 ent39 ?_ ?_; rotate_left; exact (fun _ hcl => c_RMay x _ ((H.ext hcl).memF hF) hs0)) | refine y13 ?_ | refine y14 ?_ | refine y15 ?_ | refine y16 ?_ | (refine y17 ?_ ?_; all_goals intro h) | (refine y18 ?_ ?_; all_goals intro h) | with_reducible apply OW.app | with_reducible apply OW.app0 | with_reducible apply QW.app | with_reducible apply QW.app0 | with_reducible apply OW.nil | (with_reducible apply QW.nil; intro w hcl; replace H := H.ext hcl; clear hcl) | refine y19 ?_ | with_reducible apply thn_n | with_reducible apply CW.seq | with_reducible apply CW.region | refine y20 mixed ?_ | with_reducible apply CW.block | with_reducible apply CW.ret | with_reducible apply CW.exit | with_reducible apply CW.skip | with_reducible apply thn_r | with_reducible apply thn_e | with_reducible apply blk_n | with_reducible apply blk_r | refine y24 ?_ | refine y25 ?_ | refine y21 ?_ | refine y22 ?_ | fail)
  · have e := topF_no (x := x) (.inl (by simpa using h))
    exact retV (vs := [_, _]) ⟨rdvC sg rfl H.mem (List.Mem.head _) rfl rfl, rdvT rfl, trivial⟩ H.cl (by rw [e]; rfl)
  have hm : mayF x = true := by simpa using h
  clear h
  refine CW.cond rfl (fun h => ?_) (fun h => ?_)
  · repeat' (first | refine y1 sg ?_ | refine y2 sg ?_ | refine y3 ?_ | refine y4 ?_ | refine y5 sg ?_ | refine y6 sg ?_ | refine y7 sg H ?_ | refine y8 sg H ?_ | (refine y9 H ?_; intro b w H) | (refine y10 sg H ?_; intro b w H) | (refine y11 sg H ?_; intro w H) | refine y12 ?_ | refine y13 ?_ | refine y14 ?_ | refine y15 ?_ | refine y16 ?_ | (refine y17 ?_ ?_; all_goals intro h) | (refine y18 ?_ ?_; all_goals intro h) | with_reducible apply OW.app | with_reducible apply OW.app0 | with_reducible apply QW.app | with_reducible apply QW.app0 | with_reducible apply OW.nil | (with_reducible apply QW.nil; intro w hcl; replace H := H.ext hcl; clear hcl) | refine y19 ?_ | with_reducible apply thn_n | with_reducible apply CW.seq | with_reducible apply CW.region | refine y20 mixed ?_ | with_reducible apply CW.block | with_reducible apply CW.ret | with_reducible apply CW.exit | with_reducible apply CW.skip | with_reducible apply thn_r | with_reducible apply thn_e | with_reducible apply blk_n | with_reducible apply blk_r | refine y24 ?_ | refine y25 ?_ | refine y21 ?_ | refine y22 ?_ | fail)
    have e := topF_no (x := x) (.inr (by simpa using h))
    exact retV (vs := [_, _]) ⟨rdvC sg rfl H.mem (List.Mem.head _) rfl rfl, rdvT rfl, trivial⟩ H.cl (by rw [e]; rfl)
  have h0 : 0 < x.bids.length := by have := neI h; omega
  have e := topF_yes hm h0
  repeat' (first | refine y1 sg ?_ | refine y2 sg ?_ | refine y3 ?_ | refine y4 ?_ | refine y5 sg ?_ | refine y6 sg ?_ | refine y7 sg H ?_ | refine y8 sg H ?_ | (refine y9 H ?_; intro b w H) | (refine y10 sg H ?_; intro b w H) | (refine y11 sg H ?_; intro w H) | refine y12 ?_ | (refine y40 sg (hs) ?_ ?_ ?_; (omega); (omega)) | (refine y41 sg (hs) ?_ ?_ ?_; (omega); (omega)) | (refine y42 sg (hs) ((H.memF hF)) ?_ ?_; (omega)) | (refine y43 sg (hs) ((H.memF hF)) ?_ ?_; (omega)) | refine y13 ?_ | refine y14 ?_ | refine y15 ?_ | refine y16 ?_ | (refine y17 ?_ ?_; all_goals intro h) | (refine y18 ?_ ?_; all_goals intro h) | with_reducible apply OW.app | with_reducible apply OW.app0 | with_reducible apply QW.app | with_reducible apply QW.app0 | with_reducible apply OW.nil | (with_reducible apply QW.nil; intro w hcl; replace H := H.ext hcl; clear hcl) | refine y19 ?_ | with_reducible apply thn_n | with_reducible apply CW.seq | with_reducible apply CW.region | refine y20 mixed ?_ | with_reducible apply CW.block | with_reducible apply CW.ret | with_reducible apply CW.exit | with_reducible apply CW.skip | with_reducible apply thn_r | with_reducible apply thn_e | with_reducible apply blk_n | with_reducible apply blk_r | refine y24 ?_ | refine y25 ?_ | refine y21 ?_ | refine y22 ?_ | fail)
  refine CW.loopI [(5, 5), (20, 40)] (fun k : Nat => [(5, .int .i64 (k : Int))])
    (fun k w => 1 ≤ k ∧ k ≤ x.bids.length ∧ St w0 [cb _ (x.bids.getD (hiTo x.bids k).toNat default).cells 26, cb _ [.int .i64 0, .int .i64 0] 26, cb _ (x.cells a cap) 24] w) (fun k => x.bids.length - k) 1
    ⟨rfl, trivial⟩ ⟨Nat.le_refl _, h0, H⟩ ?_
  clear H
  rintro k g w ⟨hk1, hk, H⟩
  obtain ⟨p1, _, _⟩ := hiTo_max x.bids k (by omega)
  have p2 := hiTo_lt x.bids k
  repeat' (first | refine y1 sg ?_ | refine y2 sg ?_ | refine y3 ?_ | refine y4 ?_ | refine y5 sg ?_ | refine y6 sg ?_ | refine y7 sg H ?_ | refine y8 sg H ?_ | (refine y9 H ?_; intro b w H) | (refine y10 sg H ?_; intro b w H) | (refine y11 sg H ?_; intro w H) | refine y12 ?_ | refine y13 ?_ | refine y14 ?_ | refine y15 ?_ | refine y16 ?_ | (refine y17 ?_ ?_; all_goals intro h) | (refine y18 ?_ ?_; all_goals intro h) | with_reducible apply OW.app | with_reducible apply OW.app0 | with_reducible apply QW.app | with_reducible apply QW.app0 | with_reducible apply OW.nil | (with_reducible apply QW.nil; intro w hcl; replace H := H.ext hcl; clear hcl) | refine y19 ?_ | with_reducible apply thn_n | with_reducible apply CW.seq | with_reducible apply CW.region | refine y20 mixed ?_ | with_reducible apply CW.block | with_reducible apply CW.ret | with_reducible apply CW.exit | with_reducible apply CW.skip | with_reducible apply thn_r | with_reducible apply thn_e | with_reducible apply blk_n | with_reducible apply blk_r | refine y24 ?_ | refine y25 ?_ | refine y21 ?_ | refine y22 ?_ | fail)
  refine CW.cond rfl (fun h2 => ?_) (fun h2 => ?_)
  · have hlt : k < x.bids.length := by simpa using h2
    repeat' (first | refine y1 sg ?_ | refine y2 sg ?_ | refine y3 ?_ | refine y4 ?_ | refine y5 sg ?_ | refine y6 sg ?_ | refine y7 sg H ?_ | refine y8 sg H ?_ | (refine y9 H ?_; intro b w H) | (refine y10 sg H ?_; intro b w H) | (refine y11 sg H ?_; intro w H) | refine y12 ?_ | (refine y40 sg (hs) ?_ ?_ ?_; (omega); (omega)) | (refine y41 sg (hs) ?_ ?_ ?_; (omega); (omega)) | (refine y44 sg (hs) ((H.memF hF)) ?_ ?_; (omega)) | (refine y45 sg (hs) ((H.memF hF)) ?_ ?_; (omega)) | refine y13 ?_ | refine y14 ?_ | refine y15 ?_ | refine y16 ?_ | (refine y17 ?_ ?_; all_goals intro h) | (refine y18 ?_ ?_; all_goals intro h) | with_reducible apply OW.app | with_reducible apply OW.app0 | with_reducible apply QW.app | with_reducible apply QW.app0 | with_reducible apply OW.nil | (with_reducible apply QW.nil; intro w hcl; replace H := H.ext hcl; clear hcl) | refine y19 ?_ | with_reducible apply thn_n | with_reducible apply CW.seq | with_reducible apply CW.region | refine y20 mixed ?_ | with_reducible apply CW.block | with_reducible apply CW.ret | with_reducible apply CW.exit | with_reducible apply CW.skip | with_reducible apply thn_r | with_reducible apply thn_e | with_reducible apply blk_n | with_reducible apply blk_r | refine y24 ?_ | refine y25 ?_ | refine y21 ?_ | refine y22 ?_ | fail)
    refine CW.cond rfl (fun h3 => ?_) (fun h3 => ?_)
    · have eh : hiTo x.bids (k + 1) = k := by rw [hiTo, if_pos (.inr (by simpa using h3))]
      repeat' (first | refine y1 sg ?_ | refine y2 sg ?_ | refine y3 ?_ | refine y4 ?_ | refine y5 sg ?_ | refine y6 sg ?_ | refine y7 sg H ?_ | refine y8 sg H ?_ | (refine y9 H ?_; intro b w H) | (refine y10 sg H ?_; intro b w H) | (refine y11 sg H ?_; intro w H) | refine y12 ?_ | (refine y40 sg (hs) ?_ ?_ ?_; (omega); (omega)) | (refine y41 sg (hs) ?_ ?_ ?_; (omega); (omega)) | (refine y42 sg (hs) ((H.memF hF)) ?_ ?_; (omega)) | (refine y43 sg (hs) ((H.memF hF)) ?_ ?_; (omega)) | refine y13 ?_ | refine y14 ?_ | refine y15 ?_ | refine y16 ?_ | (refine y17 ?_ ?_; all_goals intro h) | (refine y18 ?_ ?_; all_goals intro h) | with_reducible apply OW.app | with_reducible apply OW.app0 | with_reducible apply QW.app | with_reducible apply QW.app0 | with_reducible apply OW.nil | (with_reducible apply QW.nil; intro w hcl; replace H := H.ext hcl; clear hcl) | refine y19 ?_ | with_reducible apply thn_n | with_reducible apply CW.seq | with_reducible apply CW.region | refine y20 mixed ?_ | with_reducible apply CW.block | with_reducible apply CW.ret | with_reducible apply CW.exit | with_reducible apply CW.skip | with_reducible apply thn_r | with_reducible apply thn_e | with_reducible apply blk_n | with_reducible apply blk_r | refine y24 ?_ | refine y25 ?_ | refine y21 ?_ | refine y22 ?_ | fail)
      exact Again.mk (k + 1) rfl ⟨vsucc (by omega), trivial⟩ ⟨by omega, hlt, by rw [eh]; exact H⟩ (by omega)
    · have eh : hiTo x.bids (k + 1) = hiTo x.bids k := by rw [hiTo, if_neg (by simp at h3 ⊢; omega)]
      repeat' (first | refine y1 sg ?_ | refine y2 sg ?_ | refine y3 ?_ | refine y4 ?_ | refine y5 sg ?_ | refine y6 sg ?_ | refine y7 sg H ?_ | refine y8 sg H ?_ | (refine y9 H ?_; intro b w H) | (refine y10 sg H ?_; intro b w H) | (refine y11 sg H ?_; intro w H) | refine y12 ?_ | refine y13 ?_ | refine y14 ?_ | refine y15 ?_ | refine y16 ?_ | (refine y17 ?_ ?_; all_goals intro h) | (refine y18 ?_ ?_; all_goals intro h) | with_reducible apply OW.app | with_reducible apply OW.app0 | with_reducible apply QW.app | with_reducible apply QW.app0 | with_reducible apply OW.nil | (with_reducible apply QW.nil; intro w hcl; replace H := H.ext hcl; clear hcl) | refine y19 ?_ | with_reducible apply thn_n | with_reducible apply CW.seq | with_reducible apply CW.region | refine y20 mixed ?_ | with_reducible apply CW.block | with_reducible apply CW.ret | with_reducible apply CW.exit | with_reducible apply CW.skip | with_reducible apply thn_r | with_reducible apply thn_e | with_reducible apply blk_n | with_reducible apply blk_r | refine y24 ?_ | refine y25 ?_ | refine y21 ?_ | refine y22 ?_ | fail)
      exact Again.mk (k + 1) rfl ⟨vsucc (by omega), trivial⟩ ⟨by omega, hlt, by rw [eh]; exact H⟩ (by omega)
  · have hkn : k = x.bids.length := by simp at h2; omega
    subst hkn
    repeat' (first | refine y1 sg ?_ | refine y2 sg ?_ | refine y3 ?_ | refine y4 ?_ | refine y5 sg ?_ | refine y6 sg ?_ | refine y7 sg H ?_ | refine y8 sg H ?_ | (refine y9 H ?_; intro b w H) | (refine y10 sg H ?_; intro b w H) | (refine y11 sg H ?_; intro w H) | refine y12 ?_ | refine y13 ?_ | refine y14 ?_ | refine y15 ?_ | refine y16 ?_ | (refine y17 ?_ ?_; all_goals intro h) | (refine y18 ?_ ?_; all_goals intro h) | with_reducible apply OW.app | with_reducible apply OW.app0 | with_reducible apply QW.app | with_reducible apply QW.app0 | with_reducible apply OW.nil | (with_reducible apply QW.nil; intro w hcl; replace H := H.ext hcl; clear hcl) | refine y19 ?_ | with_reducible apply thn_n | with_reducible apply CW.seq | with_reducible apply CW.region | refine y20 mixed ?_ | with_reducible apply CW.block | with_reducible apply CW.ret | with_reducible apply CW.exit | with_reducible apply CW.skip | with_reducible apply thn_r | with_reducible apply thn_e | with_reducible apply blk_n | with_reducible apply blk_r | refine y24 ?_ | refine y25 ?_ | refine y21 ?_ | refine y22 ?_ | fail)
    exact retV (vs := [_, _]) ⟨rdvC sg rfl H.mem (List.Mem.tail _ (List.Mem.head _)) rfl rfl, rdvT rfl, trivial⟩ H.cl (by rw [e]; rfl)
theorem c_RDue {a : Option Addr} {cap : Nat} (x : Auc) (clock : Int) {F : Frag} (w0 : World) (hF : Mem w0 F) (hs : Bids F a cap x.bids) :
    Calls Try.prog 27 [.agg (x.cells a cap).toArray, .int .i64 clock].toArray w0 (Ret (.bool (dueF x clock)) w0) := by
  refine enter [.tmp 4] Try.func27 rfl Try.ntmps27 rfl rfl ?_
  have H := St.start w0
  repeat' (first | refine y1 sg ?_ | refine y2 sg ?_ | refine y3 ?_ | refine y4 ?_ | refine y5 sg ?_ | refine y6 sg ?_ | refine y7 sg H ?_ | refine y8 sg H ?_ | (refine y9 H ?_; intro b w H) | (refine y10 sg H ?_; intro b w H) | (refine y11 sg H ?_; intro w H) | refine y12 ?_ | (refine' y30 ent39 ?_ ?_; rotate_left; exact c_RMay x _ (H.memF hF) hs; intro w hcl; replace H := H.ext hcl; clear hcl) | (refine' y31 ent39 ?_ ?_; rotate_left; exact (fun _ hcl => c_RMay x _ ((H.ext hcl).memF hF) hs)) | refine y13 ?_ | refine y14 ?_ | refine y15 ?_ | refine y16 ?_ | (refine y17 ?_ ?_; all_goals intro h) | (refine y18 ?_ ?_; all_goals intro h) | with_reducible apply OW.app | with_reducible apply OW.app0 | with_reducible apply QW.app | with_reducible apply QW.app0 | with_reducible apply OW.nil | (with_reducible apply QW.nil; intro w hcl; replace H := H.ext hcl; clear hcl) | refine y19 ?_ | with_reducible apply thn_n | with_reducible apply CW.seq | with_reducible apply CW.region | refine y20 mixed ?_ | with_reducible apply CW.block | with_reducible apply CW.ret | with_reducible apply CW.exit | with_reducible apply CW.skip | with_reducible apply thn_r | with_reducible apply thn_e | with_reducible apply blk_n | with_reducible apply blk_r | refine y24 ?_ | refine y25 ?_ | refine y21 ?_ | refine y22 ?_ | (refine y23 ?_ ?_; all_goals intro h) | fail)
  all_goals first | exact ret1 rfl H.cl (by simp only [dueF, *]; simp)
theorem least_eng {x : Auc} (h : mayF x = true) (he : x.sealed = false) : leastF x = if x.bids.length = 0 then x.reserve else (x.bids.getD 0 default).amount + x.step := by
  unfold leastF
  rw [if_pos h, if_neg (by rw [he]; decide)]
  unfold eleastF
  by_cases h0 : x.bids.length = 0
  · rw [if_pos (by simp [h0]), if_pos h0]
  · have hb := amount_bd h 0 (by omega)
    have hst := step_bd h he
    rw [if_neg (by simp; exact fun e => h0 (by rw [e]; rfl)), if_neg h0]
    simp only [addF, toldF]
    rw [if_neg (by omega)]
set_option maxRecDepth 20000 in
theorem c_RLeast {a : Option Addr} {cap : Nat} (x : Auc) {F : Frag} (w0 : World) (hF : Mem w0 F) (hs : Bids F a cap x.bids) :
    Calls Try.prog 25 [.agg (x.cells a cap).toArray].toArray w0 (Ret (.int .i64 (leastF x)) w0) := by
  obtain ⟨t, is, ht⟩ : ∃ W s, topF x = (W, s) := ⟨_, _, rfl⟩
  have topX : ∀ {F : Frag} {w : World}, Mem w F → Bids F a cap x.bids → Calls Try.prog 22 [.agg (x.cells a cap).toArray].toArray w (Ret (.tuple #[.agg t.cells.toArray, .bool is]) w) := fun hF hs => by
    have := c_RTop x _ hF hs; rw [ht] at this; exact this
  refine enter [.tmp 2] Try.func25 rfl Try.ntmps25 rfl rfl ?_
  have H := St.start w0
  repeat' (first | refine y1 sg ?_ | refine y2 sg ?_ | refine y3 ?_ | refine y4 ?_ | refine y5 sg ?_ | refine y6 sg ?_ | refine y7 sg H ?_ | refine y8 sg H ?_ | (refine y9 H ?_; intro b w H) | (refine y10 sg H ?_; intro b w H) | (refine y11 sg H ?_; intro w H) | refine y12 ?_ | (refine' y30 ent39 ?_ ?_; rotate_left; exact c_RMay x _ (H.memF hF) hs; intro w hcl; replace H := H.ext hcl; clear hcl) | (refine' y31 ent39 ?_ ?_; rotate_left; exact (fun _ hcl => c_RMay x _ ((H.ext hcl).memF hF) hs)) | (refine' y30 ent22 ?_ ?_; rotate_left; exact topX (H.memF hF) hs; intro w hcl; replace H := H.ext hcl; clear hcl) | (refine' y31 ent22 ?_ ?_; rotate_left; exact (fun _ hcl => topX ((H.ext hcl).memF hF) hs)) | refine y13 ?_ | refine y14 ?_ | refine y15 ?_ | refine y16 ?_ | (refine y17 ?_ ?_; all_goals intro h) | (refine y18 ?_ ?_; all_goals intro h) | with_reducible apply OW.app | with_reducible apply OW.app0 | with_reducible apply QW.app | with_reducible apply QW.app0 | with_reducible apply OW.nil | (with_reducible apply QW.nil; intro w hcl; replace H := H.ext hcl; clear hcl) | refine y19 ?_ | with_reducible apply thn_n | with_reducible apply CW.seq | with_reducible apply CW.region | refine y20 mixed ?_ | with_reducible apply CW.block | with_reducible apply CW.ret | with_reducible apply CW.exit | with_reducible apply CW.skip | with_reducible apply thn_r | with_reducible apply thn_e | with_reducible apply blk_n | with_reducible apply blk_r | refine y24 ?_ | refine y25 ?_ | refine y21 ?_ | refine y22 ?_ | (refine y23 ?_ ?_; all_goals intro h) | fail)
  · exact ret1 rfl H.cl (by unfold leastF; rw [if_neg (by simp at h; simp [h])])
  · rename_i hm0
    have hm : mayF x = true := by simpa using hm0
    exact ret1 rfl H.cl (by unfold leastF; rw [if_pos hm, if_pos h])
  all_goals
    have hm : mayF x = true := by simpa using ‹(!mayF x) = false›
    have hse := ‹x.sealed = false›
    have hl := least_eng hm hse
  · have h0 : 0 < x.bids.length := by
      rcases Nat.eq_zero_or_pos x.bids.length with h0 | h0
      · have := topF_no (x := x) (.inr h0); rw [ht] at this; injection this with _ e2; subst e2; cases h
      · exact h0
    obtain ⟨rfl, rfl⟩ : t = x.bids.getD 0 default ∧ is = true := by
      have := topF_yes hm h0
      rw [ht] at this
      have h1 := (may_eng hm hse).1
      have h2 := hiTo_lt x.bids x.bids.length
      have h3 := (hiTo_max x.bids x.bids.length h0).1
      rw [show (hiTo x.bids x.bids.length).toNat = 0 by omega] at this
      injection this with e1 e2
      exact ⟨e1, e2⟩
    have hb := amount_bd hm 0 h0
    have hst := step_bd hm hse
    exact ret1 rfl H.cl (by rw [hl, if_neg (by omega), w64 (by omega) (by omega)])
  · have h0 : x.bids.length = 0 := by
      rcases Nat.eq_zero_or_pos x.bids.length with h0 | h0
      · exact h0
      · have := topF_yes hm h0; rw [ht] at this; injection this with _ e2; subst e2; cases h
    exact ret1 rfl H.cl (by rw [hl, if_pos h0])
def rpr (l : List Bid) (c res : Int) : Nat → Int
  | 0 => res
  | k + 1 => if (l.getD k default).acct ≠ c ∧ (l.getD k default).amount > rpr l c res k then (l.getD k default).amount else rpr l c res k
theorem rpr_eq {l : List Bid} {c res : Int} {m : Nat} : ∀ k, (∀ j, j < k → ((l.getD j default).acct = c ↔ j = m)) → rpr l c res k = prTo l res m k
  | 0, _ => rfl
  | k + 1, h => by
    have hk := h k (by omega)
    rw [rpr, prTo, rpr_eq k (fun j hj => h j (by omega))]
    by_cases hkm : k = m
    · rw [if_neg (fun hh => hh.1 (hk.2 hkm)), if_neg (by simp [hkm])]
    · have h1 : (l.getD k default).acct ≠ c := fun e => hkm (hk.1 e)
      rw [if_pos (show ((k : Int) != m) = true by simp; omega)]
      unfold mx
      by_cases h2 : (l.getD k default).amount > prTo l res m k
      · rw [if_pos ⟨h1, h2⟩, if_pos h2]
      · rw [if_neg (fun hh => h2 hh.2), if_neg h2]
theorem win_no {x : Auc} {t : Bid} {is : Bool} (ht : topF x = (t, is)) (h : is = false ∨ t.amount < x.reserve) : winF x = (Bid.zero, false) := by
  rcases Bool.eq_false_or_eq_true (mayF x) with hm | hm
  · rcases Nat.eq_zero_or_pos x.bids.length with h0 | h0
    · have h1 : hi x.bids < 0 := by unfold hi; rw [h0]; show (-1 : Int) < 0; decide
      rcases Bool.eq_false_or_eq_true x.sealed with he | he
      · simp [winF, hm, he, swinF, h1]
      · simp [winF, hm, he, ewinF, h0]
    · have e := topF_yes hm h0
      rw [ht] at e
      injection e with e1 e2
      have h : t.amount < x.reserve := by
        rcases h with h | h
        · rw [e2] at h; cases h
        · exact h
      rcases Bool.eq_false_or_eq_true x.sealed with he | he
      · obtain ⟨m, _, _, _, h5, h6⟩ := sealed_win hm he h0
        rw [h6, if_pos]
        rw [← h5, ht]; exact h
      · exfalso
        have h1 := may_eng hm he
        have h2 := hiTo_lt x.bids x.bids.length
        have h3 := (hiTo_max x.bids x.bids.length h0).1
        rw [show (hiTo x.bids x.bids.length).toNat = 0 by omega] at e1
        rw [← e1] at h1
        have := h1.2
        omega
  · simp [winF, hm]
theorem win_eng {x : Auc} {t : Bid} (ht : topF x = (t, true)) (he : x.sealed = false) : winF x = (t, true) := by
  have hm : mayF x = true := by
    rcases Bool.eq_false_or_eq_true (mayF x) with hm | hm
    · exact hm
    · have := topF_no (x := x) (.inl hm); rw [ht] at this; injection this with _ e; cases e
  have h0 : 0 < x.bids.length := by
    rcases Nat.eq_zero_or_pos x.bids.length with h0 | h0
    · have := topF_no (x := x) (.inr h0); rw [ht] at this; injection this with _ e; cases e
    · exact h0
  have e := topF_yes hm h0
  have h1 := (may_eng hm he).1
  have h2 := hiTo_lt x.bids x.bids.length
  have h3 := (hiTo_max x.bids x.bids.length h0).1
  rw [show (hiTo x.bids x.bids.length).toNat = 0 by omega, ht] at e
  injection e with e1 _
  have h4 : ¬ x.bids.length = 0 := by omega
  have h5 : ¬ x.bids = [] := fun e => h4 (by rw [e]; rfl)
  rw [e1]
  simp [winF, hm, he, ewinF, h5]
theorem win_sealed {x : Auc} {t : Bid} (ht : topF x = (t, true)) (he : x.sealed = true) (hr : ¬ t.amount < x.reserve) : winF x = (⟨t.acct, rpr x.bids t.acct x.reserve x.bids.length⟩, true) := by
  have hm : mayF x = true := by
    rcases Bool.eq_false_or_eq_true (mayF x) with hm | hm
    · exact hm
    · have := topF_no (x := x) (.inl hm); rw [ht] at this; injection this with _ e; cases e
  have h0 : 0 < x.bids.length := by
    rcases Nat.eq_zero_or_pos x.bids.length with h0 | h0
    · have := topF_no (x := x) (.inr h0); rw [ht] at this; injection this with _ e; cases e
    · exact h0
  obtain ⟨m, h1, _, _, h5, h6⟩ := sealed_win hm he h0
  rw [ht] at h5
  simp only at h5
  subst h5
  rw [h6, if_neg hr, rpr_eq (m := m)]
  intro j hj
  constructor
  · intro e
    rcases Nat.lt_trichotomy j m with h | h | h
    · exact absurd e (may_uniq hm j m h h1)
    · exact h
    · exact absurd e.symm (may_uniq hm m j h hj)
  · rintro rfl; rfl
set_option maxRecDepth 20000 in
set_option maxHeartbeats 4000000 in
theorem c_RWinner {a : Option Addr} {cap : Nat} (x : Auc) {F : Frag} (w0 : World) (hF : Mem w0 F) (hs0 : Bids F a cap x.bids) :
    Calls Try.prog 23 [.agg (x.cells a cap).toArray].toArray w0 (Ret (.tuple #[.agg (winF x).1.cells.toArray, .bool (winF x).2]) w0) := by
  obtain ⟨t, is, ht⟩ : ∃ W s, topF x = (W, s) := ⟨_, _, rfl⟩
  have topX : ∀ {F : Frag} {w : World}, Mem w F → Bids F a cap x.bids → Calls Try.prog 22 [.agg (x.cells a cap).toArray].toArray w (Ret (.tuple #[.agg t.cells.toArray, .bool is]) w) := fun hF hs => by
    have := c_RTop x _ hF hs; rw [ht] at this; exact this
  obtain ⟨hn, hc, b0, off, cs, T, fr, hs⟩ := id hs0
  refine enter [.cell 2 26, .tmp 3] Try.func23 rfl Try.ntmps23 rfl rfl ?_
  have H := St.start w0
  repeat' (first | refine y1 sg ?_ | refine y2 sg ?_ | refine y3 ?_ | refine y4 ?_ | refine y5 sg ?_ | refine y6 sg ?_ | refine y7 sg H ?_ | refine y8 sg H ?_ | (refine y9 H ?_; intro b w H) | (refine y10 sg H ?_; intro b w H) | (refine y11 sg H ?_; intro w H) | refine y12 ?_ | (refine' y30 ent22 ?_ ?_; rotate_left; exact topX (H.memF hF) hs0; intro w hcl; replace H := H.ext hcl; clear hcl) | (refine' y31 ent22 ?_ ?_; rotate_left; exact (fun _ hcl => topX ((H.ext hcl).memF hF) hs0)) | refine y13 ?_ | refine y14 ?_ | refine y15 ?_ | refine y16 ?_ | (refine y17 ?_ ?_; all_goals intro h) | (refine y18 ?_ ?_; all_goals intro h) | with_reducible apply OW.app | with_reducible apply OW.app0 | with_reducible apply QW.app | with_reducible apply QW.app0 | with_reducible apply OW.nil | (with_reducible apply QW.nil; intro w hcl; replace H := H.ext hcl; clear hcl) | refine y19 ?_ | with_reducible apply thn_n | with_reducible apply CW.seq | with_reducible apply CW.region | refine y20 mixed ?_ | with_reducible apply CW.block | with_reducible apply CW.ret | with_reducible apply CW.exit | with_reducible apply CW.skip | with_reducible apply thn_r | with_reducible apply thn_e | with_reducible apply blk_n | with_reducible apply blk_r | refine y24 ?_ | refine y25 ?_ | refine y21 ?_ | refine y22 ?_ | fail)
  · have e := win_no ht (.inl (by simpa using h))
    exact retV (vs := [_, _]) ⟨rdvC sg rfl H.mem (List.Mem.tail _ (List.Mem.head _)) rfl rfl, rdvT rfl, trivial⟩ H.cl (by rw [e]; rfl)
  obtain rfl : is = true := by simpa using h
  clear h
  refine CW.cond rfl (fun h => ?_) (fun h => ?_)
  · repeat' (first | refine y1 sg ?_ | refine y2 sg ?_ | refine y3 ?_ | refine y4 ?_ | refine y5 sg ?_ | refine y6 sg ?_ | refine y7 sg H ?_ | refine y8 sg H ?_ | (refine y9 H ?_; intro b w H) | (refine y10 sg H ?_; intro b w H) | (refine y11 sg H ?_; intro w H) | refine y12 ?_ | refine y13 ?_ | refine y14 ?_ | refine y15 ?_ | refine y16 ?_ | (refine y17 ?_ ?_; all_goals intro h) | (refine y18 ?_ ?_; all_goals intro h) | with_reducible apply OW.app | with_reducible apply OW.app0 | with_reducible apply QW.app | with_reducible apply QW.app0 | with_reducible apply OW.nil | (with_reducible apply QW.nil; intro w hcl; replace H := H.ext hcl; clear hcl) | refine y19 ?_ | with_reducible apply thn_n | with_reducible apply CW.seq | with_reducible apply CW.region | refine y20 mixed ?_ | with_reducible apply CW.block | with_reducible apply CW.ret | with_reducible apply CW.exit | with_reducible apply CW.skip | with_reducible apply thn_r | with_reducible apply thn_e | with_reducible apply blk_n | with_reducible apply blk_r | refine y24 ?_ | refine y25 ?_ | refine y21 ?_ | refine y22 ?_ | fail)
    have e := win_no ht (.inr (of_decide_eq_true h))
    exact retV (vs := [_, _]) ⟨rdvC sg rfl H.mem (List.Mem.tail _ (List.Mem.head _)) rfl rfl, rdvT rfl, trivial⟩ H.cl (by rw [e]; rfl)
  have hr := of_decide_eq_false h
  clear h
  repeat' (first | refine y1 sg ?_ | refine y2 sg ?_ | refine y3 ?_ | refine y4 ?_ | refine y5 sg ?_ | refine y6 sg ?_ | refine y7 sg H ?_ | refine y8 sg H ?_ | (refine y9 H ?_; intro b w H) | (refine y10 sg H ?_; intro b w H) | (refine y11 sg H ?_; intro w H) | refine y12 ?_ | refine y13 ?_ | refine y14 ?_ | refine y15 ?_ | refine y16 ?_ | (refine y17 ?_ ?_; all_goals intro h) | (refine y18 ?_ ?_; all_goals intro h) | with_reducible apply OW.app | with_reducible apply OW.app0 | with_reducible apply QW.app | with_reducible apply QW.app0 | with_reducible apply OW.nil | (with_reducible apply QW.nil; intro w hcl; replace H := H.ext hcl; clear hcl) | refine y19 ?_ | with_reducible apply thn_n | with_reducible apply CW.seq | with_reducible apply CW.region | refine y20 mixed ?_ | with_reducible apply CW.block | with_reducible apply CW.ret | with_reducible apply CW.exit | with_reducible apply CW.skip | with_reducible apply thn_r | with_reducible apply thn_e | with_reducible apply blk_n | with_reducible apply blk_r | refine y24 ?_ | refine y25 ?_ | refine y21 ?_ | refine y22 ?_ | fail)
  refine CW.cond rfl (fun h => ?_) (fun h => ?_)
  · repeat' (first | refine y1 sg ?_ | refine y2 sg ?_ | refine y3 ?_ | refine y4 ?_ | refine y5 sg ?_ | refine y6 sg ?_ | refine y7 sg H ?_ | refine y8 sg H ?_ | (refine y9 H ?_; intro b w H) | (refine y10 sg H ?_; intro b w H) | (refine y11 sg H ?_; intro w H) | refine y12 ?_ | refine y13 ?_ | refine y14 ?_ | refine y15 ?_ | refine y16 ?_ | (refine y17 ?_ ?_; all_goals intro h) | (refine y18 ?_ ?_; all_goals intro h) | with_reducible apply OW.app | with_reducible apply OW.app0 | with_reducible apply QW.app | with_reducible apply QW.app0 | with_reducible apply OW.nil | (with_reducible apply QW.nil; intro w hcl; replace H := H.ext hcl; clear hcl) | refine y19 ?_ | with_reducible apply thn_n | with_reducible apply CW.seq | with_reducible apply CW.region | refine y20 mixed ?_ | with_reducible apply CW.block | with_reducible apply CW.ret | with_reducible apply CW.exit | with_reducible apply CW.skip | with_reducible apply thn_r | with_reducible apply thn_e | with_reducible apply blk_n | with_reducible apply blk_r | refine y24 ?_ | refine y25 ?_ | refine y21 ?_ | refine y22 ?_ | fail)
    have e := win_eng ht (by simpa using h)
    exact retV (vs := [_, _]) ⟨rdvC sg rfl H.mem (List.Mem.tail _ (List.Mem.head _)) rfl rfl, rdvT rfl, trivial⟩ H.cl (by rw [e]; rfl)
  have e := win_sealed ht (by simpa using h) hr
  clear h
  repeat' (first | refine y1 sg ?_ | refine y2 sg ?_ | refine y3 ?_ | refine y4 ?_ | refine y5 sg ?_ | refine y6 sg ?_ | refine y7 sg H ?_ | refine y8 sg H ?_ | (refine y9 H ?_; intro b w H) | (refine y10 sg H ?_; intro b w H) | (refine y11 sg H ?_; intro w H) | refine y12 ?_ | refine y13 ?_ | refine y14 ?_ | refine y15 ?_ | refine y16 ?_ | (refine y17 ?_ ?_; all_goals intro h) | (refine y18 ?_ ?_; all_goals intro h) | with_reducible apply OW.app | with_reducible apply OW.app0 | with_reducible apply QW.app | with_reducible apply QW.app0 | with_reducible apply OW.nil | (with_reducible apply QW.nil; intro w hcl; replace H := H.ext hcl; clear hcl) | refine y19 ?_ | with_reducible apply thn_n | with_reducible apply CW.seq | with_reducible apply CW.region | refine y20 mixed ?_ | with_reducible apply CW.block | with_reducible apply CW.ret | with_reducible apply CW.exit | with_reducible apply CW.skip | with_reducible apply thn_r | with_reducible apply thn_e | with_reducible apply blk_n | with_reducible apply blk_r | refine y24 ?_ | refine y25 ?_ | refine y21 ?_ | refine y22 ?_ | fail)
  refine CW.loopI [(6, 7), (29, 60)] (fun k : Nat => [(7, .int .i64 (k : Int)), (6, .int .i64 (rpr x.bids t.acct x.reserve k))])
    (fun k w => k ≤ x.bids.length ∧ St w0 [cb _ t.cells 26, cb _ [.int .i64 0, .int .i64 0] 26, cb _ (x.cells a cap) 24] w) (fun k => x.bids.length - k) 0
    ⟨rfl, rfl, trivial⟩ ⟨Nat.zero_le _, H⟩ ?_
  clear H
  rintro k g w ⟨hk, H⟩
  repeat' (first | refine y1 sg ?_ | refine y2 sg ?_ | refine y3 ?_ | refine y4 ?_ | refine y5 sg ?_ | refine y6 sg ?_ | refine y7 sg H ?_ | refine y8 sg H ?_ | (refine y9 H ?_; intro b w H) | (refine y10 sg H ?_; intro b w H) | (refine y11 sg H ?_; intro w H) | refine y12 ?_ | refine y13 ?_ | refine y14 ?_ | refine y15 ?_ | refine y16 ?_ | (refine y17 ?_ ?_; all_goals intro h) | (refine y18 ?_ ?_; all_goals intro h) | with_reducible apply OW.app | with_reducible apply OW.app0 | with_reducible apply QW.app | with_reducible apply QW.app0 | with_reducible apply OW.nil | (with_reducible apply QW.nil; intro w hcl; replace H := H.ext hcl; clear hcl) | refine y19 ?_ | with_reducible apply thn_n | with_reducible apply CW.seq | with_reducible apply CW.region | refine y20 mixed ?_ | with_reducible apply CW.block | with_reducible apply CW.ret | with_reducible apply CW.exit | with_reducible apply CW.skip | with_reducible apply thn_r | with_reducible apply thn_e | with_reducible apply blk_n | with_reducible apply blk_r | refine y24 ?_ | refine y25 ?_ | refine y21 ?_ | refine y22 ?_ | fail)
  refine CW.cond rfl (fun h2 => ?_) (fun h2 => ?_)
  · have hlt : k < x.bids.length := by simpa using h2
    repeat' (first | refine y1 sg ?_ | refine y2 sg ?_ | refine y3 ?_ | refine y4 ?_ | refine y5 sg ?_ | refine y6 sg ?_ | refine y7 sg H ?_ | refine y8 sg H ?_ | (refine y9 H ?_; intro b w H) | (refine y10 sg H ?_; intro b w H) | (refine y11 sg H ?_; intro w H) | refine y12 ?_ | (refine y40 sg (hs) ?_ ?_ ?_; (omega); (omega)) | (refine y41 sg (hs) ?_ ?_ ?_; (omega); (omega)) | (refine y44 sg (hs) ((H.memF hF)) ?_ ?_; (omega)) | (refine y45 sg (hs) ((H.memF hF)) ?_ ?_; (omega)) | refine y13 ?_ | refine y14 ?_ | refine y15 ?_ | refine y16 ?_ | (refine y17 ?_ ?_; all_goals intro h) | (refine y18 ?_ ?_; all_goals intro h) | with_reducible apply OW.app | with_reducible apply OW.app0 | with_reducible apply QW.app | with_reducible apply QW.app0 | with_reducible apply OW.nil | (with_reducible apply QW.nil; intro w hcl; replace H := H.ext hcl; clear hcl) | refine y19 ?_ | with_reducible apply thn_n | with_reducible apply CW.seq | with_reducible apply CW.region | refine y20 mixed ?_ | with_reducible apply CW.block | with_reducible apply CW.ret | with_reducible apply CW.exit | with_reducible apply CW.skip | with_reducible apply thn_r | with_reducible apply thn_e | with_reducible apply blk_n | with_reducible apply blk_r | refine y24 ?_ | refine y25 ?_ | refine y21 ?_ | refine y22 ?_ | (refine y23 ?_ ?_; all_goals intro h) | fail)
    all_goals
      refine Again.mk (k + 1) rfl ⟨vsucc (by omega), ?_, trivial⟩ ⟨hlt, H⟩ (by omega)
      show Value.int .i64 _ = Value.int .i64 _
      congr 1
      rw [rpr]
      first
        | (rw [if_pos ⟨by simpa using ‹((x.bids.getD k default).acct != t.acct) = true›, of_decide_eq_true h⟩]; done)
        | (rw [if_neg (fun hh => absurd hh.2 (of_decide_eq_false h))]; done)
        | rw [if_neg (fun hh => hh.1 (by simpa using h))]
  · have hkn : k = x.bids.length := by simp at h2; omega
    subst hkn
    repeat' (first | refine y1 sg ?_ | refine y2 sg ?_ | refine y3 ?_ | refine y4 ?_ | refine y5 sg ?_ | refine y6 sg ?_ | refine y7 sg H ?_ | refine y8 sg H ?_ | (refine y9 H ?_; intro b w H) | (refine y10 sg H ?_; intro b w H) | (refine y11 sg H ?_; intro w H) | refine y12 ?_ | refine y13 ?_ | refine y14 ?_ | refine y15 ?_ | refine y16 ?_ | (refine y17 ?_ ?_; all_goals intro h) | (refine y18 ?_ ?_; all_goals intro h) | with_reducible apply OW.app | with_reducible apply OW.app0 | with_reducible apply QW.app | with_reducible apply QW.app0 | with_reducible apply OW.nil | (with_reducible apply QW.nil; intro w hcl; replace H := H.ext hcl; clear hcl) | refine y19 ?_ | with_reducible apply thn_n | with_reducible apply CW.seq | with_reducible apply CW.region | refine y20 mixed ?_ | with_reducible apply CW.block | with_reducible apply CW.ret | with_reducible apply CW.exit | with_reducible apply CW.skip | with_reducible apply thn_r | with_reducible apply thn_e | with_reducible apply blk_n | with_reducible apply blk_r | refine y24 ?_ | refine y25 ?_ | refine y21 ?_ | refine y22 ?_ | fail)
    exact retV (vs := [_, _]) ⟨rdvC sg rfl H.mem (List.Mem.tail _ (List.Mem.head _)) rfl rfl, rdvT rfl, trivial⟩ H.cl (by rw [e]; rfl)
theorem sameF_no {x y : Auc} (h : x = y → False) : Value.bool false = Value.bool (sameF x y) := by
  cases hs : sameF x y with
  | false => rfl
  | true =>
    simp only [sameF, Bool.and_eq_true, beq_iff_eq, decide_eq_true_eq] at hs
    obtain ⟨⟨⟨⟨⟨⟨⟨⟨h1, h2⟩, h3⟩, h4⟩, h5⟩, h6⟩, h7⟩, h8⟩, h9⟩ := hs
    cases x; cases y
    simp only at h1 h2 h3 h4 h5 h6 h7 h8 h9
    subst h1; subst h2; subst h3; subst h4; subst h5; subst h6; subst h7; subst h8; subst h9
    exact (h rfl).elim
theorem sameF_self (x : Auc) : sameF x x = true := by simp [sameF]
theorem bids_eq {l l' : List Bid} (hl : l.length = l'.length) (h : ∀ j, j < l.length → l.getD j default = l'.getD j default) : l = l' := by
  apply List.ext_getElem hl
  intro i h1 h2
  have := h i h1
  simpa [List.getD, h1, h2] using this
set_option maxRecDepth 20000 in
set_option maxHeartbeats 4000000 in
theorem c_RSame {a a' : Option Addr} {cap cap' : Nat} (x y : Auc) {F : Frag} (w0 : World) (hF : Mem w0 F) (hs0 : Bids F a cap x.bids) (hs0' : Bids F a' cap' y.bids) :
    Calls Try.prog 31 [.agg (x.cells a cap).toArray, .agg (y.cells a' cap').toArray].toArray w0 (Ret (.bool (sameF x y)) w0) := by
  obtain ⟨hn, hc, b0, off, cs, T, fr, hs⟩ := id hs0
  obtain ⟨hn', hc', b0', off', cs', T', fr', hs'⟩ := id hs0'
  refine enter [.tmp 4] Try.func31 rfl Try.ntmps31 rfl rfl ?_
  have H := St.start w0
  repeat' (first | refine y1 sg ?_ | refine y2 sg ?_ | refine y3 ?_ | refine y4 ?_ | refine y5 sg ?_ | refine y6 sg ?_ | refine y7 sg H ?_ | refine y8 sg H ?_ | (refine y9 H ?_; intro b w H) | (refine y10 sg H ?_; intro b w H) | (refine y11 sg H ?_; intro w H) | refine y12 ?_ | refine y13 ?_ | refine y14 ?_ | refine y15 ?_ | refine y16 ?_ | (refine y17 ?_ ?_; all_goals intro h) | (refine y18 ?_ ?_; all_goals intro h) | with_reducible apply OW.app | with_reducible apply OW.app0 | with_reducible apply QW.app | with_reducible apply QW.app0 | with_reducible apply OW.nil | (with_reducible apply QW.nil; intro w hcl; replace H := H.ext hcl; clear hcl) | refine y19 ?_ | with_reducible apply thn_n | with_reducible apply CW.seq | with_reducible apply CW.region | refine y20 mixed ?_ | with_reducible apply CW.block | with_reducible apply CW.ret | with_reducible apply CW.exit | with_reducible apply CW.skip | with_reducible apply thn_r | with_reducible apply thn_e | with_reducible apply blk_n | with_reducible apply blk_r | refine y24 ?_ | refine y25 ?_ | refine y21 ?_ | refine y22 ?_ | (refine y23 ?_ ?_; all_goals intro h) | fail)
  all_goals try exact ret1 rfl H.cl (sameF_no fun e => by clear H; subst e; simp_all; done)
  refine CW.loopI [(4, 5), (69, 86)] (fun k : Nat => [(5, .int .i64 (k : Int))])
    (fun k w => k ≤ x.bids.length ∧ (∀ j, j < k → x.bids.getD j default = y.bids.getD j default) ∧ St w0 [cb _ (y.cells a' cap') 24, cb _ (x.cells a cap) 24] w) (fun k => x.bids.length - k) 0
    ⟨rfl, trivial⟩ ⟨Nat.zero_le _, fun j hj => absurd hj (Nat.not_lt_zero _), H⟩ ?_
  have hl : x.bids.length = y.bids.length := by have := h; simp at this; omega
  have hxy : x.bids = y.bids → x = y := by
    clear H
    intro e
    cases x; cases y
    simp only at e
    subst e
    simp_all
  clear H
  rintro k g w ⟨hk, hk1, H⟩
  repeat' (first | refine y1 sg ?_ | refine y2 sg ?_ | refine y3 ?_ | refine y4 ?_ | refine y5 sg ?_ | refine y6 sg ?_ | refine y7 sg H ?_ | refine y8 sg H ?_ | (refine y9 H ?_; intro b w H) | (refine y10 sg H ?_; intro b w H) | (refine y11 sg H ?_; intro w H) | refine y12 ?_ | refine y13 ?_ | refine y14 ?_ | refine y15 ?_ | refine y16 ?_ | (refine y17 ?_ ?_; all_goals intro h) | (refine y18 ?_ ?_; all_goals intro h) | with_reducible apply OW.app | with_reducible apply OW.app0 | with_reducible apply QW.app | with_reducible apply QW.app0 | with_reducible apply OW.nil | (with_reducible apply QW.nil; intro w hcl; replace H := H.ext hcl; clear hcl) | refine y19 ?_ | with_reducible apply thn_n | with_reducible apply CW.seq | with_reducible apply CW.region | refine y20 mixed ?_ | with_reducible apply CW.block | with_reducible apply CW.ret | with_reducible apply CW.exit | with_reducible apply CW.skip | with_reducible apply thn_r | with_reducible apply thn_e | with_reducible apply blk_n | with_reducible apply blk_r | refine y24 ?_ | refine y25 ?_ | refine y21 ?_ | refine y22 ?_ | fail)
  refine CW.cond rfl (fun h2 => ?_) (fun h2 => ?_)
  · have hlt : k < x.bids.length := by simpa using h2
    repeat' (first | refine y1 sg ?_ | refine y2 sg ?_ | refine y3 ?_ | refine y4 ?_ | refine y5 sg ?_ | refine y6 sg ?_ | refine y7 sg H ?_ | refine y8 sg H ?_ | (refine y9 H ?_; intro b w H) | (refine y10 sg H ?_; intro b w H) | (refine y11 sg H ?_; intro w H) | refine y12 ?_ | (refine y40 sg (hs) ?_ ?_ ?_; (omega); (omega)) | (refine y41 sg (hs) ?_ ?_ ?_; (omega); (omega)) | (refine y40 sg (hs') ?_ ?_ ?_; (omega); (omega)) | (refine y41 sg (hs') ?_ ?_ ?_; (omega); (omega)) | (refine y42 sg (hs) ((H.memF hF)) ?_ ?_; (omega)) | (refine y43 sg (hs) ((H.memF hF)) ?_ ?_; (omega)) | (refine y42 sg (hs') ((H.memF hF)) ?_ ?_; (omega)) | (refine y43 sg (hs') ((H.memF hF)) ?_ ?_; (omega)) | ((with_reducible apply OX.val); exact rfl; exact rfl; exact Yq.neqBid (x.bids.getD k default) (y.bids.getD k default) rfl rfl rfl) | ((with_reducible apply QX.val); exact rfl; exact rfl; exact Yq.neqBid (x.bids.getD k default) (y.bids.getD k default) rfl rfl rfl) | refine y13 ?_ | refine y14 ?_ | refine y15 ?_ | refine y16 ?_ | (refine y17 ?_ ?_; all_goals intro h) | (refine y18 ?_ ?_; all_goals intro h) | with_reducible apply OW.app | with_reducible apply OW.app0 | with_reducible apply QW.app | with_reducible apply QW.app0 | with_reducible apply OW.nil | (with_reducible apply QW.nil; intro w hcl; replace H := H.ext hcl; clear hcl) | refine y19 ?_ | with_reducible apply thn_n | with_reducible apply CW.seq | with_reducible apply CW.region | refine y20 mixed ?_ | with_reducible apply CW.block | with_reducible apply CW.ret | with_reducible apply CW.exit | with_reducible apply CW.skip | with_reducible apply thn_r | with_reducible apply thn_e | with_reducible apply blk_n | with_reducible apply blk_r | refine y24 ?_ | refine y25 ?_ | refine y21 ?_ | refine y22 ?_ | (refine y23 ?_ ?_; all_goals intro h) | fail)
    · exact ret1 rfl H.cl (sameF_no fun e => by subst e; simp at h)
    · have he : x.bids.getD k default = y.bids.getD k default := by simpa using h
      refine Again.mk (k + 1) rfl ⟨vsucc (by omega), trivial⟩ ⟨hlt, fun j hj => ?_, H⟩ (by omega)
      by_cases hjk : j = k
      · subst hjk; exact he
      · exact hk1 j (by omega)
  · have hkn : k = x.bids.length := by simp at h2; omega
    subst hkn
    repeat' (first | refine y1 sg ?_ | refine y2 sg ?_ | refine y3 ?_ | refine y4 ?_ | refine y5 sg ?_ | refine y6 sg ?_ | refine y7 sg H ?_ | refine y8 sg H ?_ | (refine y9 H ?_; intro b w H) | (refine y10 sg H ?_; intro b w H) | (refine y11 sg H ?_; intro w H) | refine y12 ?_ | refine y13 ?_ | refine y14 ?_ | refine y15 ?_ | refine y16 ?_ | (refine y17 ?_ ?_; all_goals intro h) | (refine y18 ?_ ?_; all_goals intro h) | with_reducible apply OW.app | with_reducible apply OW.app0 | with_reducible apply QW.app | with_reducible apply QW.app0 | with_reducible apply OW.nil | (with_reducible apply QW.nil; intro w hcl; replace H := H.ext hcl; clear hcl) | refine y19 ?_ | with_reducible apply thn_n | with_reducible apply CW.seq | with_reducible apply CW.region | refine y20 mixed ?_ | with_reducible apply CW.block | with_reducible apply CW.ret | with_reducible apply CW.exit | with_reducible apply CW.skip | with_reducible apply thn_r | with_reducible apply thn_e | with_reducible apply blk_n | with_reducible apply blk_r | refine y24 ?_ | refine y25 ?_ | refine y21 ?_ | refine y22 ?_ | fail)
    exact ret1 rfl H.cl (by rw [hxy (bids_eq hl hk1), sameF_self])
theorem amountTo_zero {l : List Bid} {c : Int} : ∀ k, (∀ j, j < k → (l.getD j default).acct ≠ c) → amountTo l c k = 0
  | 0, _ => rfl
  | k + 1, h => by rw [amountTo, if_neg (by simpa using h k (by omega)), amountTo_zero k (fun j hj => h j (by omega))]
set_option maxRecDepth 20000 in
set_option maxHeartbeats 4000000 in
theorem c_RHeld {a : Option Addr} {cap : Nat} (x : Auc) (acct : Int) {F : Frag} (w0 : World) (hF : Mem w0 F) (hs0 : Bids F a cap x.bids) :
    Calls Try.prog 38 [.agg (x.cells a cap).toArray, .int .i64 acct].toArray w0 (Ret (.tuple #[.int .i64 (heldF x acct).1, .int .i64 (heldF x acct).2]) w0) := by
  obtain ⟨hn, hc, b0, off, cs, T, fr, hs⟩ := id hs0
  rcases Bool.eq_false_or_eq_true (mayF x) with hm | hm
  all_goals have mayX : ∀ {F : Frag} {w : World}, Mem w F → Bids F a cap x.bids → Calls Try.prog 39 [.agg (x.cells a cap).toArray].toArray w (Ret (.bool _) w) := fun hF hs => hm ▸ c_RMay x _ hF hs
  all_goals
    refine enter [.tmp 4, .tmp 5] Try.func38 rfl Try.ntmps38 rfl rfl ?_
    have H := St.start w0
    repeat' (first | refine y1 sg ?_ | refine y2 sg ?_ | refine y3 ?_ | refine y4 ?_ | refine y5 sg ?_ | refine y6 sg ?_ | refine y7 sg H ?_ | refine y8 sg H ?_ | (refine y9 H ?_; intro b w H) | (refine y10 sg H ?_; intro b w H) | (refine y11 sg H ?_; intro w H) | refine y12 ?_ | refine y13 ?_ | refine y14 ?_ | refine y15 ?_ | refine y16 ?_ | (refine y17 ?_ ?_; all_goals intro h) | (refine y18 ?_ ?_; all_goals intro h) | with_reducible apply OW.app | with_reducible apply OW.app0 | with_reducible apply QW.app | with_reducible apply QW.app0 | with_reducible apply OW.nil | (with_reducible apply QW.nil; intro w hcl; replace H := H.ext hcl; clear hcl) | refine y19 ?_ | with_reducible apply thn_n | with_reducible apply CW.seq | with_reducible apply CW.region | refine y20 mixed ?_ | with_reducible apply CW.block | with_reducible apply CW.ret | with_reducible apply CW.exit | with_reducible apply CW.skip | with_reducible apply thn_r | with_reducible apply thn_e | with_reducible apply blk_n | with_reducible apply blk_r | refine y24 ?_ | refine y25 ?_ | refine y21 ?_ | refine y22 ?_ | fail)
  · refine CW.loopI [(6, 6), (8, 35)] (fun k : Nat => [(8, .int .i64 (k : Int)), (6, .int .i64 (amountTo x.bids acct k))])
      (fun k w => k ≤ x.bids.length ∧ St w0 [cb _ (x.cells a cap) 24] w) (fun k => x.bids.length - k) 0
      ⟨rfl, rfl, trivial⟩ ⟨Nat.zero_le _, H⟩ ?_
    clear H
    rintro k g w ⟨hk, H⟩
    repeat' (first | refine y1 sg ?_ | refine y2 sg ?_ | refine y3 ?_ | refine y4 ?_ | refine y5 sg ?_ | refine y6 sg ?_ | refine y7 sg H ?_ | refine y8 sg H ?_ | (refine y9 H ?_; intro b w H) | (refine y10 sg H ?_; intro b w H) | (refine y11 sg H ?_; intro w H) | refine y12 ?_ | (refine' y30 ent39 ?_ ?_; rotate_left; exact mayX (H.memF hF) hs0; intro w hcl; replace H := H.ext hcl; clear hcl) | (refine' y31 ent39 ?_ ?_; rotate_left; exact (fun _ hcl => mayX ((H.ext hcl).memF hF) hs0)) | refine y13 ?_ | refine y14 ?_ | refine y15 ?_ | refine y16 ?_ | (refine y17 ?_ ?_; all_goals intro h) | (refine y18 ?_ ?_; all_goals intro h) | with_reducible apply OW.app | with_reducible apply OW.app0 | with_reducible apply QW.app | with_reducible apply QW.app0 | with_reducible apply OW.nil | (with_reducible apply QW.nil; intro w hcl; replace H := H.ext hcl; clear hcl) | refine y19 ?_ | with_reducible apply thn_n | with_reducible apply CW.seq | with_reducible apply CW.region | refine y20 mixed ?_ | with_reducible apply CW.block | with_reducible apply CW.ret | with_reducible apply CW.exit | with_reducible apply CW.skip | with_reducible apply thn_r | with_reducible apply thn_e | with_reducible apply blk_n | with_reducible apply blk_r | refine y24 ?_ | refine y25 ?_ | refine y21 ?_ | refine y22 ?_ | fail)
    · have hlt : k < x.bids.length := by simpa using h
      repeat' (first | refine y1 sg ?_ | refine y2 sg ?_ | refine y3 ?_ | refine y4 ?_ | refine y5 sg ?_ | refine y6 sg ?_ | refine y7 sg H ?_ | refine y8 sg H ?_ | (refine y9 H ?_; intro b w H) | (refine y10 sg H ?_; intro b w H) | (refine y11 sg H ?_; intro w H) | refine y12 ?_ | (refine y40 sg (hs) ?_ ?_ ?_; (omega); (omega)) | (refine y41 sg (hs) ?_ ?_ ?_; (omega); (omega)) | (refine y44 sg (hs) ((H.memF hF)) ?_ ?_; (omega)) | (refine y45 sg (hs) ((H.memF hF)) ?_ ?_; (omega)) | refine y13 ?_ | refine y14 ?_ | refine y15 ?_ | refine y16 ?_ | (refine y17 ?_ ?_; all_goals intro h) | (refine y18 ?_ ?_; all_goals intro h) | with_reducible apply OW.app | with_reducible apply OW.app0 | with_reducible apply QW.app | with_reducible apply QW.app0 | with_reducible apply OW.nil | (with_reducible apply QW.nil; intro w hcl; replace H := H.ext hcl; clear hcl) | refine y19 ?_ | with_reducible apply thn_n | with_reducible apply CW.seq | with_reducible apply CW.region | refine y20 mixed ?_ | with_reducible apply CW.block | with_reducible apply CW.ret | with_reducible apply CW.exit | with_reducible apply CW.skip | with_reducible apply thn_r | with_reducible apply thn_e | with_reducible apply blk_n | with_reducible apply blk_r | refine y24 ?_ | refine y25 ?_ | refine y21 ?_ | refine y22 ?_ | fail)
      refine CW.cond rfl (fun h3 => ?_) (fun h3 => ?_)
      · have hc3 : (x.bids.getD k default).acct = acct := by simpa using h3
        have hz : amountTo x.bids acct k = 0 := amountTo_zero k fun j hj => by rw [← hc3]; exact may_uniq hm j k hj hlt
        have hb := amount_bd hm k hlt
        repeat' (first | refine y1 sg ?_ | refine y2 sg ?_ | refine y3 ?_ | refine y4 ?_ | refine y5 sg ?_ | refine y6 sg ?_ | refine y7 sg H ?_ | refine y8 sg H ?_ | (refine y9 H ?_; intro b w H) | (refine y10 sg H ?_; intro b w H) | (refine y11 sg H ?_; intro w H) | refine y12 ?_ | (refine y40 sg (hs) ?_ ?_ ?_; (omega); (omega)) | (refine y41 sg (hs) ?_ ?_ ?_; (omega); (omega)) | (refine y44 sg (hs) ((H.memF hF)) ?_ ?_; (omega)) | (refine y45 sg (hs) ((H.memF hF)) ?_ ?_; (omega)) | refine y13 ?_ | refine y14 ?_ | refine y15 ?_ | refine y16 ?_ | (refine y17 ?_ ?_; all_goals intro h) | (refine y18 ?_ ?_; all_goals intro h) | with_reducible apply OW.app | with_reducible apply OW.app0 | with_reducible apply QW.app | with_reducible apply QW.app0 | with_reducible apply OW.nil | (with_reducible apply QW.nil; intro w hcl; replace H := H.ext hcl; clear hcl) | refine y19 ?_ | with_reducible apply thn_n | with_reducible apply CW.seq | with_reducible apply CW.region | refine y20 mixed ?_ | with_reducible apply CW.block | with_reducible apply CW.ret | with_reducible apply CW.exit | with_reducible apply CW.skip | with_reducible apply thn_r | with_reducible apply thn_e | with_reducible apply blk_n | with_reducible apply blk_r | refine y24 ?_ | refine y25 ?_ | refine y21 ?_ | refine y22 ?_ | fail)
        refine Again.mk (k + 1) rfl ⟨vsucc (by omega), ?_, trivial⟩ ⟨hlt, H⟩ (by omega)
        refine vint (by omega) (by omega) ?_
        rw [amountTo, if_pos h3, hz, Int.zero_add]
      · repeat' (first | refine y1 sg ?_ | refine y2 sg ?_ | refine y3 ?_ | refine y4 ?_ | refine y5 sg ?_ | refine y6 sg ?_ | refine y7 sg H ?_ | refine y8 sg H ?_ | (refine y9 H ?_; intro b w H) | (refine y10 sg H ?_; intro b w H) | (refine y11 sg H ?_; intro w H) | refine y12 ?_ | refine y13 ?_ | refine y14 ?_ | refine y15 ?_ | refine y16 ?_ | (refine y17 ?_ ?_; all_goals intro h) | (refine y18 ?_ ?_; all_goals intro h) | with_reducible apply OW.app | with_reducible apply OW.app0 | with_reducible apply QW.app | with_reducible apply QW.app0 | with_reducible apply OW.nil | (with_reducible apply QW.nil; intro w hcl; replace H := H.ext hcl; clear hcl) | refine y19 ?_ | with_reducible apply thn_n | with_reducible apply CW.seq | with_reducible apply CW.region | refine y20 mixed ?_ | with_reducible apply CW.block | with_reducible apply CW.ret | with_reducible apply CW.exit | with_reducible apply CW.skip | with_reducible apply thn_r | with_reducible apply thn_e | with_reducible apply blk_n | with_reducible apply blk_r | refine y24 ?_ | refine y25 ?_ | refine y21 ?_ | refine y22 ?_ | fail)
        refine Again.mk (k + 1) rfl ⟨vsucc (by omega), ?_, trivial⟩ ⟨hlt, H⟩ (by omega)
        show Value.int .i64 _ = Value.int .i64 _
        rw [amountTo, if_neg (by rw [h3]; decide)]
    · have hkn : k = x.bids.length := by simp at h; omega
      subst hkn
      repeat' (first | refine y1 sg ?_ | refine y2 sg ?_ | refine y3 ?_ | refine y4 ?_ | refine y5 sg ?_ | refine y6 sg ?_ | refine y7 sg H ?_ | refine y8 sg H ?_ | (refine y9 H ?_; intro b w H) | (refine y10 sg H ?_; intro b w H) | (refine y11 sg H ?_; intro w H) | refine y12 ?_ | refine y13 ?_ | refine y14 ?_ | refine y15 ?_ | refine y16 ?_ | (refine y17 ?_ ?_; all_goals intro h) | (refine y18 ?_ ?_; all_goals intro h) | with_reducible apply OW.app | with_reducible apply OW.app0 | with_reducible apply QW.app | with_reducible apply QW.app0 | with_reducible apply OW.nil | (with_reducible apply QW.nil; intro w hcl; replace H := H.ext hcl; clear hcl) | refine y19 ?_ | with_reducible apply thn_n | with_reducible apply CW.seq | with_reducible apply CW.region | refine y20 mixed ?_ | with_reducible apply CW.block | with_reducible apply CW.ret | with_reducible apply CW.exit | with_reducible apply CW.skip | with_reducible apply thn_r | with_reducible apply thn_e | with_reducible apply blk_n | with_reducible apply blk_r | refine y24 ?_ | refine y25 ?_ | refine y21 ?_ | refine y22 ?_ | (refine y23 ?_ ?_; all_goals intro h) | fail)
      all_goals exact ret2 rfl rfl H.cl (by simp only [heldF, *]; simp)
  · refine CW.loopI [(6, 6), (8, 35)] (fun k : Nat => [(8, .int .i64 (k : Int)), (6, .int .i64 0)])
      (fun k w => k ≤ x.bids.length ∧ St w0 [cb _ (x.cells a cap) 24] w) (fun k => x.bids.length - k) 0
      ⟨rfl, rfl, trivial⟩ ⟨Nat.zero_le _, H⟩ ?_
    clear H
    rintro k g w ⟨hk, H⟩
    repeat' (first | refine y1 sg ?_ | refine y2 sg ?_ | refine y3 ?_ | refine y4 ?_ | refine y5 sg ?_ | refine y6 sg ?_ | refine y7 sg H ?_ | refine y8 sg H ?_ | (refine y9 H ?_; intro b w H) | (refine y10 sg H ?_; intro b w H) | (refine y11 sg H ?_; intro w H) | refine y12 ?_ | (refine' y30 ent39 ?_ ?_; rotate_left; exact mayX (H.memF hF) hs0; intro w hcl; replace H := H.ext hcl; clear hcl) | (refine' y31 ent39 ?_ ?_; rotate_left; exact (fun _ hcl => mayX ((H.ext hcl).memF hF) hs0)) | refine y13 ?_ | refine y14 ?_ | refine y15 ?_ | refine y16 ?_ | (refine y17 ?_ ?_; all_goals intro h) | (refine y18 ?_ ?_; all_goals intro h) | with_reducible apply OW.app | with_reducible apply OW.app0 | with_reducible apply QW.app | with_reducible apply QW.app0 | with_reducible apply OW.nil | (with_reducible apply QW.nil; intro w hcl; replace H := H.ext hcl; clear hcl) | refine y19 ?_ | with_reducible apply thn_n | with_reducible apply CW.seq | with_reducible apply CW.region | refine y20 mixed ?_ | with_reducible apply CW.block | with_reducible apply CW.ret | with_reducible apply CW.exit | with_reducible apply CW.skip | with_reducible apply thn_r | with_reducible apply thn_e | with_reducible apply blk_n | with_reducible apply blk_r | refine y24 ?_ | refine y25 ?_ | refine y21 ?_ | refine y22 ?_ | (refine y23 ?_ ?_; all_goals intro h) | fail)
    all_goals exact ret2 rfl rfl H.cl (by simp only [heldF, *]; simp)
end Go.Proofs.Ytkcoemikglbomaa
