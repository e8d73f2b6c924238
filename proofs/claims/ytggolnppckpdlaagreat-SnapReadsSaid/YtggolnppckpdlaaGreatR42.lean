/- Texts of ours, joined: the steps of the proof, or the claim's theorem. -/
import Derived.Test.YtggolnppckpdlaaGreatR41
set_option linter.unusedSimpArgs false
set_option linter.unusedVariables false
namespace Go.Proofs.YtggolnppckpdlaaGreat
open Go Go.Sk Go.RowKit
attribute [local irreducible] Go.Calls
theorem zKQ (o : Opn) : zBj o = true ↔ zX o.acct 1 64 = true ∧ zX o.id 1 1099511627776 = true ∧ zX o.inst 1 16 = true ∧ (o.side = 1 ∨ o.side = 2) ∧ zX o.price 1 1073741824 = true ∧ zX o.left 1 1048576 = true := by
 unfold zBj
 simp only [Bool.and_eq_true, Bool.or_eq_true, beq_iff_eq]
theorem zMU (o : Lt) : zCV o = true ↔ zX o.id 1 1099511627776 = true ∧ zX o.seller 1 64 = true ∧ zX o.inst 1 16 = true ∧ zX o.qty 1 1048576 = true := by
 unfold zCV
 simp only [Bool.and_eq_true]
set_option maxHeartbeats 8000000 in
theorem zQr {F : zI} {a a2 : Option Addr} {cap cap2 : Nat} (l : List Opn) (m : List Lt) (w0 : World) (hF : Mem w0 F) (hs : SlA F 6 a l.length cap (opl l)) (ht : SlA F 4 a2 m.length cap2 (ltl m)) :
  Calls Tryz.prog 153 [.slice a l.length cap, .slice a2 m.length cap2].toArray w0 (Ret (.bool (zD0 l m)) w0) := by
 obtain ⟨hnc, hcb, b0, off, cs, T, fr, hs⟩ := hs
 obtain ⟨hnc2, hcb2, b2, off2, cs2, T2, fr2, ht⟩ := ht
 have hiff := zMT (l := l) (m := m)
 obtain ⟨R, hR⟩ : ∃ R, zD0 l m = R := ⟨_, rfl⟩
 rw [hR] at hiff ⊢
 by_cases hlen : l.length ≤ 128 ∧ m.length ≤ 32
 ·obtain ⟨g1, g2⟩ := hlen
  have e1 : decide ((l.length : Int) > 128) = false := decide_eq_false (by omega)
  have e2 : decide ((m.length : Int) > 32) = false := decide_eq_false (by omega)
  refine enter [.tmp 4] Tryz.func153 rfl Tryz.ntmps153 rfl rfl ?_
  have H := zH w0
  repeat' (first | refine y1 sg ?_ | refine y5 sg ?_ | refine y13 ?_ | (refine y17 ?_ ?_; all_goals (intro h; try (exfalso; first | ((rw [e1] at h; cases h); done) | ((rw [e2] at h; cases h); done)))) | (with_reducible first | apply zB | apply zD | apply zC | apply zE | apply zG) | refine zA ?_ | (refine y23 ?_ ?_; all_goals (intro h; try (exfalso; first | ((rw [e1] at h; cases h); done) | ((rw [e2] at h; cases h); done)))) | fail)
  all_goals
   refine zK [(4, 7), (18, 108)] (fun k : Nat => [(5, .int .i64 (k : Int))]) (fun k w => St w0 [] w ∧ k ≤ l.length ∧ ∀ i, i < k → zBj (op_ l i) = true ∧ ∀ j, j < i → zLZ l j i) (fun k => l.length - k) 0 ⟨rfl, trivial⟩ ⟨H, Nat.zero_le _, fun i hi => absurd hi (Nat.not_lt_zero i)⟩ ?_
   clear H
   rintro k gh w ⟨H, hk, hP⟩
   by_cases hlt : k < l.length
   ·have d1 : decide ((k : Int) < (l.length : Int)) = true := decide_eq_true (by omega)
    have hm := zKQ (op_ l k)
    have hf : R = true → zBj (op_ l k) = true ∧ ∀ j, j < k → zLZ l j k := fun q => (hiff.1 q).2.2.1 k hlt
    generalize hr1 : zX (op_ l k).acct 1 64 = r1 at hm
    generalize hr2 : zX (op_ l k).id 1 1099511627776 = r2 at hm
    generalize hr3 : zX (op_ l k).inst 1 16 = r3 at hm
    generalize hr5 : zX (op_ l k).price 1 1073741824 = r5 at hm
    generalize hr6 : zX (op_ l k).left 1 1048576 = r6 at hm
    repeat' (first | refine y1 sg ?_ | refine y3 ?_ | refine y5 sg ?_ | refine y7 sg H ?_ | (refine y10 sg H ?_; intro b w H) | (refine y11 sg H ?_; intro w H) | (refine y40 sg (hs) ?_ ?_ ?_; (omega); (omega)) | (refine y42 sg (hs) ((H.memF hF)) ?_ ?_; (omega)) | (refine' y30 zBx ?_ ?_; rotate_left; exact hr1 ▸ zAZ _ _ _; intro w hcl; replace H := H.ext hcl; clear hcl) | (refine' y30 zBx ?_ ?_; rotate_left; exact hr2 ▸ zAZ _ _ _; intro w hcl; replace H := H.ext hcl; clear hcl) | (refine' y30 zBx ?_ ?_; rotate_left; exact hr3 ▸ zAZ _ _ _; intro w hcl; replace H := H.ext hcl; clear hcl) | (refine' y30 zBx ?_ ?_; rotate_left; exact hr5 ▸ zAZ _ _ _; intro w hcl; replace H := H.ext hcl; clear hcl) | (refine' y30 zBx ?_ ?_; rotate_left; exact hr6 ▸ zAZ _ _ _; intro w hcl; replace H := H.ext hcl; clear hcl) | refine y13 ?_ | refine y14 ?_ | (refine y17 ?_ ?_; all_goals (intro h; try (exfalso; first | ((rw [d1] at h; cases h); done)))) | (with_reducible first | apply zB | apply zD | apply zC | apply zE | apply zF | apply zG | apply zO | apply zW) | refine zA ?_ | refine y21 ?_ | (refine y23 ?_ ?_; all_goals (intro h; try (exfalso; first | ((rw [d1] at h; cases h); done)))) | fail)
    all_goals simp only [Bool.not_eq_true', Bool.not_eq_false', decide_eq_true_eq, decide_eq_false_iff_not, beq_iff_eq, beq_eq_false_iff_ne, bne_iff_ne, bne_eq_false_iff_eq, ne_eq, ge_iff_le] at *
    all_goals first
     | exact zQ rfl H.cl (congrArg Value.bool (Eq.symm (Bool.eq_false_iff.2 fun q => by
       obtain ⟨q1, q2, q3, q4, q5, q6⟩ := hm.1 (hf q).1
       first | omega | (cases q1.symm.trans ‹r1 = false›) | (cases q2.symm.trans ‹r2 = false›) | (cases q3.symm.trans ‹r3 = false›) | (cases q5.symm.trans ‹r5 = false›) | (cases q6.symm.trans ‹r6 = false›))))
     | skip
    all_goals
     have hok : zBj (op_ l k) = true := hm.2 ⟨by assumption, by assumption, by assumption, by omega, by assumption, by assumption⟩
     clear hm hr1 hr2 hr3 hr5 hr6 d1
     refine zK [(4, 4), (7, 7), (66, 108)] (fun j : Nat => [(7, .int .i64 (j : Int))]) (fun j w => St w0 [cb _ (op_ l k).cells 83] w ∧ j ≤ k ∧ ∀ i, i < j → zLZ l i k) (fun j => k - j) 0 ⟨rfl, trivial⟩ ⟨H, Nat.zero_le _, fun i hi => absurd hi (Nat.not_lt_zero i)⟩ ?_
     clear H
     rintro j gh2 w ⟨H, hj, hQ⟩
     by_cases hjk : j < k
     ·have d2 : decide ((j : Int) < (k : Int)) = true := decide_eq_true (by omega)
      repeat' (first | refine y1 sg ?_ | refine y2 sg ?_ | refine y4 ?_ | refine y6 sg ?_ | refine y8 sg H ?_ | (refine y41 sg (hs) ?_ ?_ ?_; (omega); (omega)) | (refine y45 sg (hs) ((H.memF hF)) ?_ ?_; (omega)) | refine y15 ?_ | refine y16 ?_ | (refine y18 ?_ ?_; all_goals (intro h; try (exfalso; first | ((rw [d2] at h; cases h); done)))) | (with_reducible first | apply zB | apply zD | apply zC | apply zE | apply zF | apply zG | apply zO | apply zW) | (with_reducible apply zV; intro w hcl; replace H := H.ext hcl; clear hcl) | refine zA ?_ | refine y20 mixed ?_ | refine y21 ?_ | refine y22 ?_ | (refine y23 ?_ ?_; all_goals (intro h; try (exfalso; first | ((rw [d2] at h; cases h); done)))) | fail)
      all_goals simp only [Bool.not_eq_true', Bool.not_eq_false', decide_eq_true_eq, decide_eq_false_iff_not, beq_iff_eq, beq_eq_false_iff_ne, bne_iff_ne, bne_eq_false_iff_eq, ne_eq, ge_iff_le, gt_iff_lt] at *
      all_goals first
       | exact zQ rfl H.cl (congrArg Value.bool (Eq.symm (Bool.eq_false_iff.2 fun q => by
         obtain ⟨p1, p2, p3⟩ := (hf q).2 j hjk
         omega)))
       | exact zJ (j + 1) rfl ⟨zT (by omega), trivial⟩ ⟨H, hjk, fun i hi => by
         by_cases hij : i = j
         ·subst hij; exact ⟨by omega, by omega, by omega⟩
         ·exact hQ i (by omega)⟩ (by omega)
     ·obtain rfl : j = k := by omega
      have d2 : decide ((j : Int) < (j : Int)) = false := decide_eq_false (by omega)
      repeat' (first | refine y1 sg ?_ | (with_reducible first | apply zB | apply zD | apply zC | apply zL) | refine zA ?_ | (refine y23 ?_ ?_; all_goals (intro h; try (exfalso; first | ((rw [d2] at h; cases h); done)))) | fail)
      exact zAY (j + 1) rfl ⟨zT (by omega), trivial⟩ ⟨H.sub (List.nil_sublist _), hlt, fun i hi => by
       by_cases hij : i = j
       ·subst hij; exact ⟨hok, hQ⟩
       ·exact hP i (by omega)⟩ (by omega)
   ·obtain rfl : k = l.length := by omega
    have d1 : decide ((l.length : Int) < (l.length : Int)) = false := decide_eq_false (by omega)
    repeat' (first | refine y1 sg ?_ | (with_reducible first | apply zB | apply zD | apply zC | apply zE | apply zL | apply zS) | refine zA ?_ | refine y24 ?_ | (refine y23 ?_ ?_; all_goals (intro h; try (exfalso; first | ((rw [d1] at h; cases h); done)))) | fail)
    refine zK [(4, 4), (8, 9), (109, 155)] (fun k : Nat => [(8, .int .i64 (k : Int))]) (fun k w => St w0 [] w ∧ k ≤ m.length ∧ ∀ i, i < k → zCV (lt_ m i) = true ∧ (0 < i → (lt_ m (i - 1)).id < (lt_ m i).id)) (fun k => m.length - k) 0 ⟨rfl, trivial⟩ ⟨H, Nat.zero_le _, fun i hi => absurd hi (Nat.not_lt_zero i)⟩ ?_
    clear H d1
    rintro k gh w ⟨H, hk, hQ⟩
    by_cases hlt : k < m.length
    ·have d1 : decide ((k : Int) < (m.length : Int)) = true := decide_eq_true (by omega)
     have hm := zMU (lt_ m k)
     have hf : R = true → zCV (lt_ m k) = true ∧ (0 < k → (lt_ m (k - 1)).id < (lt_ m k).id) := fun q => (hiff.1 q).2.2.2 k hlt
     generalize hr1 : zX (lt_ m k).id 1 1099511627776 = r1 at hm
     generalize hr2 : zX (lt_ m k).seller 1 64 = r2 at hm
     generalize hr3 : zX (lt_ m k).inst 1 16 = r3 at hm
     generalize hr5 : zX (lt_ m k).qty 1 1048576 = r5 at hm
     rcases k with _ | j
     ·have d2 : decide (((0 : Nat) : Int) > 0) = false := rfl
      repeat' (first | refine y1 sg ?_ | refine y2 sg ?_ | refine y3 ?_ | refine y4 ?_ | refine y6 sg ?_ | refine y8 sg H ?_ | (refine y10 sg H ?_; intro b w H) | (refine y11 sg H ?_; intro w H) | (refine y40 sg (ht) ?_ ?_ ?_; (omega); (omega)) | (refine y42 sg (ht) ((H.memF hF)) ?_ ?_; (omega)) | (refine' y31 zBx ?_ ?_; rotate_left; exact (fun _ hcl => hr1 ▸ zAZ _ _ _)) | (refine' y31 zBx ?_ ?_; rotate_left; exact (fun _ hcl => hr2 ▸ zAZ _ _ _)) | (refine' y31 zBx ?_ ?_; rotate_left; exact (fun _ hcl => hr3 ▸ zAZ _ _ _)) | (refine' y31 zBx ?_ ?_; rotate_left; exact (fun _ hcl => hr5 ▸ zAZ _ _ _)) | refine y15 ?_ | refine y16 ?_ | (refine y18 ?_ ?_; all_goals (intro h; try (exfalso; first | ((rw [d1] at h; cases h); done) | ((rw [d2] at h; cases h); done)))) | (with_reducible first | apply zB | apply zD | apply zC | apply zE | apply zF | apply zG | apply zO | apply zW) | (with_reducible apply zV; intro w hcl; replace H := H.ext hcl; clear hcl) | refine zA ?_ | refine y20 mixed ?_ | refine y21 ?_ | refine y22 ?_ | (refine y23 ?_ ?_; all_goals (intro h; try (exfalso; first | ((rw [d1] at h; cases h); done) | ((rw [d2] at h; cases h); done)))) | fail)
      all_goals simp only [Bool.not_eq_true', Bool.not_eq_false', decide_eq_true_eq, decide_eq_false_iff_not, beq_iff_eq, beq_eq_false_iff_ne, bne_iff_ne, bne_eq_false_iff_eq, ne_eq, ge_iff_le] at *
      all_goals first
       | exact zQ rfl H.cl (congrArg Value.bool (Eq.symm (Bool.eq_false_iff.2 fun q => by
         obtain ⟨q1, q2, q3, q5⟩ := hm.1 (hf q).1
         first | (cases q1.symm.trans ‹r1 = false›) | (cases q2.symm.trans ‹r2 = false›) | (cases q3.symm.trans ‹r3 = false›) | (cases q5.symm.trans ‹r5 = false›))))
       | exact zJ 1 rfl ⟨zT (by omega), trivial⟩ ⟨H.sub (List.nil_sublist _), by omega, fun i hi => by
         obtain rfl : i = 0 := by omega
         exact ⟨hm.2 ⟨by assumption, by assumption, by assumption, by assumption⟩, fun h => absurd h (Nat.lt_irrefl 0)⟩⟩ (by omega)
     ·have d2 : decide (((j + 1 : Nat) : Int) > 0) = true := decide_eq_true (by omega)
      rw [Nat.add_sub_cancel] at hf
      repeat' (first | refine y1 sg ?_ | refine y2 sg ?_ | refine y3 ?_ | refine y4 ?_ | refine y6 sg ?_ | refine y8 sg H ?_ | (refine y10 sg H ?_; intro b w H) | (refine y11 sg H ?_; intro w H) | (refine y40 sg (ht) ?_ ?_ ?_; (first | omega | (rw [w64 (by omega) (by omega)]; omega)); (first | omega | (rw [w64 (by omega) (by omega)]; omega))) | (refine y41 sg (ht) ?_ ?_ ?_; (first | omega | (rw [w64 (by omega) (by omega)]; omega)); (first | omega | (rw [w64 (by omega) (by omega)]; omega))) | (refine y42 sg (ht) ((H.memF hF)) ?_ ?_; (omega)) | (refine y45 sg (ht) ((H.memF hF)) ?_ ?_; (omega)) | (refine' y31 zBx ?_ ?_; rotate_left; exact (fun _ hcl => hr1 ▸ zAZ _ _ _)) | (refine' y31 zBx ?_ ?_; rotate_left; exact (fun _ hcl => hr2 ▸ zAZ _ _ _)) | (refine' y31 zBx ?_ ?_; rotate_left; exact (fun _ hcl => hr3 ▸ zAZ _ _ _)) | (refine' y31 zBx ?_ ?_; rotate_left; exact (fun _ hcl => hr5 ▸ zAZ _ _ _)) | refine y15 ?_ | refine y16 ?_ | (refine y18 ?_ ?_; all_goals (intro h; try (exfalso; first | ((rw [d1] at h; cases h); done) | ((rw [d2] at h; cases h); done)))) | (with_reducible first | apply zB | apply zD | apply zC | apply zE | apply zF | apply zG | apply zO | apply zW) | (with_reducible apply zV; intro w hcl; replace H := H.ext hcl; clear hcl) | refine zA ?_ | refine y20 mixed ?_ | refine y21 ?_ | (refine y23 ?_ ?_; all_goals (intro h; try (exfalso; first | ((rw [d1] at h; cases h); done) | ((rw [d2] at h; cases h); done)))) | fail)
      all_goals clear d2
      all_goals try simp only [Nat.add_sub_cancel] at *
      all_goals simp only [Bool.not_eq_true', Bool.not_eq_false', decide_eq_true_eq, decide_eq_false_iff_not, beq_iff_eq, beq_eq_false_iff_ne, bne_iff_ne, bne_eq_false_iff_eq, ne_eq, ge_iff_le] at *
      all_goals first
       | exact zQ rfl H.cl (congrArg Value.bool (Eq.symm (Bool.eq_false_iff.2 fun q => by
         obtain ⟨q1, q2, q3, q5⟩ := hm.1 (hf q).1
         have q6 := (hf q).2 (by omega)
         first | (cases q1.symm.trans ‹r1 = false›) | (cases q2.symm.trans ‹r2 = false›) | (cases q3.symm.trans ‹r3 = false›) | (cases q5.symm.trans ‹r5 = false›) | omega)))
       | exact zJ (j + 1 + 1) rfl ⟨zT (by omega), trivial⟩ ⟨H.sub (List.nil_sublist _), by omega, fun i hi => by
         by_cases hij : i = j + 1
         ·subst hij
          exact ⟨hm.2 ⟨by assumption, by assumption, by assumption, by assumption⟩, fun h => by rw [Nat.add_sub_cancel]; omega⟩
         ·exact hQ i (by omega)⟩ (by omega)
    ·obtain rfl : k = m.length := by omega
     have d1 : decide ((m.length : Int) < (m.length : Int)) = false := decide_eq_false (by omega)
     repeat' (first | refine y1 sg ?_ | (with_reducible first | apply zB | apply zD | apply zC | apply zF | apply zL | apply zS) | refine zA ?_ | refine y24 ?_ | (refine y23 ?_ ?_; all_goals (intro h; try (exfalso; first | ((rw [d1] at h; cases h); done)))) | fail)
     exact zQ rfl H.cl (congrArg Value.bool (hiff.2 ⟨g1, g2, hP, hQ⟩).symm)
 ·have hno : R = false := Bool.eq_false_iff.2 fun q => hlen ⟨(hiff.1 q).1, (hiff.1 q).2.1⟩
  refine enter [.tmp 4] Tryz.func153 rfl Tryz.ntmps153 rfl rfl ?_
  have H := zH w0
  repeat' (first | refine y1 sg ?_ | refine y5 sg ?_ | refine y13 ?_ | refine y14 ?_ | (refine y17 ?_ ?_; all_goals (intro h; try (exfalso; first | ((simp only [decide_eq_true_eq, decide_eq_false_iff_not, gt_iff_lt] at *; omega); done)))) | (with_reducible first | apply zB | apply zD | apply zC | apply zF | apply zO) | refine zA ?_ | refine y21 ?_ | (refine y23 ?_ ?_; all_goals (intro h; try (exfalso; first | ((simp only [decide_eq_true_eq, decide_eq_false_iff_not, gt_iff_lt] at *; omega); done)))) | fail)
  all_goals exact zQ rfl H.cl (congrArg Value.bool hno.symm)
end Go.Proofs.YtggolnppckpdlaaGreat
