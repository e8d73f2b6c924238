/- Texts of ours, joined: the steps of the proof, or the claim's theorem. -/
import Derived.Test.YtggolnppckpdlaaGreatR41
set_option linter.unusedSimpArgs false
set_option linter.unusedVariables false
namespace Go.Proofs.YtggolnppckpdlaaGreat
open Go Go.Sk Go.RowKit
attribute [local irreducible] Go.Calls
def psN (x : Psn) (j : Nat) : Int := [x.bought, x.sold, x.spent, x.got].getD j 0
theorem zEo (n : Int) : tot n = true ↔ 0 ≤ n ∧ n ≤ 4611686018427387904 := zAC _ _ _
set_option maxHeartbeats 8000000 in
theorem zQs {F : zI} {a : Option Addr} {cap : Nat} (l : List Psn) (w0 : World) (hF : Mem w0 F) (hs : SlA F 6 a l.length cap (psl l)) :
  Calls Tryz.prog 154 [.slice a l.length cap].toArray w0 (Ret (.bool (zFL l)) w0) := by
 obtain ⟨hnc, hcb, b0, off, cs, T, fr, hs⟩ := hs
 obtain ⟨R, hR⟩ : ∃ R, zFL l = R := ⟨_, rfl⟩
 have hiff : R = true ↔ ∀ k, k < l.length → ((1 ≤ (ps_ l k).acct ∧ (ps_ l k).acct ≤ 64) ∧ (1 ≤ (ps_ l k).inst ∧ (ps_ l k).inst ≤ 16) ∧ ¬ ((ps_ l k).bought = 0 ∧ (ps_ l k).sold = 0) ∧ ∀ j, j < 4 → 0 ≤ psN (ps_ l k) j ∧ psN (ps_ l k) j ≤ 4611686018427387904) ∧ (0 < k → (ps_ l (k - 1)).acct < (ps_ l k).acct ∨ ((ps_ l (k - 1)).acct = (ps_ l k).acct ∧ (ps_ l (k - 1)).inst < (ps_ l k).inst)) := by
  rw [← hR, zDn]
  constructor
  ·intro h k hk
   obtain ⟨h1, h2⟩ := h k hk
   obtain ⟨g1, g2, g3, g4, g5, g6, g7⟩ := (zDG _).1 h1
   rw [zEo] at g3 g4 g5 g6
   refine ⟨⟨g1, g2, g7, fun j hj => ?_⟩, fun h0 => ?_⟩
   ·match j, hj with
    | 0, _ => exact g3
    | 1, _ => exact g4
    | 2, _ => exact g5
    | 3, _ => exact g6
   ·rcases h2 with h2 | h2
    ·omega
    ·exact (zEY _ _ _ _).1 h2
  ·intro h k hk
   obtain ⟨⟨g1, g2, g7, g⟩, h2⟩ := h k hk
   refine ⟨(zDG _).2 ⟨g1, g2, (zEo _).2 (g 0 (by decide)), (zEo _).2 (g 1 (by decide)), (zEo _).2 (g 2 (by decide)), (zEo _).2 (g 3 (by decide)), g7⟩, ?_⟩
   by_cases h0 : k = 0
   ·exact .inl h0
   ·exact .inr ((zEY _ _ _ _).2 (h2 (by omega)))
 rw [hR]
 clear hR
 refine enter [.tmp 2] Tryz.func154 rfl Tryz.ntmps154 rfl rfl ?_
 have H := zH w0
 repeat' (first | refine y1 sg ?_ | (with_reducible first | apply zB | apply zD | apply zC | apply zE) | refine zA ?_ | fail)
 refine zK [(2, 4), (6, 100)] (fun k : Nat => [(3, .int .i64 (k : Int))]) (fun k w => St w0 [] w ∧ k ≤ l.length ∧ ∀ i, i < k → ((1 ≤ (ps_ l i).acct ∧ (ps_ l i).acct ≤ 64) ∧ (1 ≤ (ps_ l i).inst ∧ (ps_ l i).inst ≤ 16) ∧ ¬ ((ps_ l i).bought = 0 ∧ (ps_ l i).sold = 0) ∧ ∀ j, j < 4 → 0 ≤ psN (ps_ l i) j ∧ psN (ps_ l i) j ≤ 4611686018427387904) ∧ (0 < i → (ps_ l (i - 1)).acct < (ps_ l i).acct ∨ ((ps_ l (i - 1)).acct = (ps_ l i).acct ∧ (ps_ l (i - 1)).inst < (ps_ l i).inst))) (fun k => l.length - k) 0 ⟨rfl, trivial⟩ ⟨H, Nat.zero_le _, fun i hi => absurd hi (Nat.not_lt_zero i)⟩ ?_
 clear H
 rintro k gh w ⟨H, hk, hP⟩
 by_cases hlt : k < l.length
 ·have d1 : decide ((k : Int) < (l.length : Int)) = true := decide_eq_true (by omega)
  have hf := fun q : R = true => hiff.1 q k hlt
  repeat' (first | refine y1 sg ?_ | refine y3 ?_ | refine y5 sg ?_ | refine y7 sg H ?_ | (refine y10 sg H ?_; intro b w H) | (refine y11 sg H ?_; intro w H) | (refine y40 sg (hs) ?_ ?_ ?_; (omega); (omega)) | (refine y42 sg (hs) ((H.memF hF)) ?_ ?_; (omega)) | (refine z14 sg H ?_; intro b w H) | refine y13 ?_ | refine y14 ?_ | (refine y17 ?_ ?_; all_goals (intro h; try (exfalso; first | ((rw [d1] at h; cases h); done)))) | (with_reducible first | apply zB | apply zD | apply zC | apply zE | apply zF | apply zG | apply zO | apply zW) | refine zA ?_ | refine y21 ?_ | refine y22 ?_ | (refine y23 ?_ ?_; all_goals (intro h; try (exfalso; first | ((rw [d1] at h; cases h); done)))) | fail)
  all_goals simp only [Bool.not_eq_true', Bool.not_eq_false', decide_eq_true_eq, decide_eq_false_iff_not, beq_iff_eq, beq_eq_false_iff_ne, bne_iff_ne, bne_eq_false_iff_eq, ne_eq, ge_iff_le, gt_iff_lt] at *
  all_goals first
   | exact zQ rfl H.cl (congrArg Value.bool (Eq.symm (Bool.eq_false_iff.2 fun q => by
     obtain ⟨⟨g1, g2, g7, g⟩, h2⟩ := hf q
     omega)))
   | skip
  all_goals
   have hsN : SlB [cb b [.int .i64 (ps_ l k).bought, .int .i64 (ps_ l k).sold, .int .i64 (ps_ l k).spent, .int .i64 (ps_ l k).got] 2] 1 (some ⟨b, 0, none⟩) 4 b 0 [.int .i64 (ps_ l k).bought, .int .i64 (ps_ l k).sold, .int .i64 (ps_ l k).spent, .int .i64 (ps_ l k).got] 2 (0, 0) (fun j => [.int .i64 (psN (ps_ l k) j)]) := fun _ => ⟨rfl, List.Mem.head _, fun j hj => by
    match j, hj with
    | 0, _ => exact ⟨by simp, rfl⟩
    | 1, _ => exact ⟨by simp, rfl⟩
    | 2, _ => exact ⟨by simp, rfl⟩
    | 3, _ => exact ⟨by simp, rfl⟩⟩
   refine zK [(2, 2), (6, 6), (55, 65)] (fun j : Nat => [(55, .int .i64 (j : Int))]) (fun j w => St w0 [cb b [.int .i64 (ps_ l k).bought, .int .i64 (ps_ l k).sold, .int .i64 (ps_ l k).spent, .int .i64 (ps_ l k).got] 2, cb _ (ps_ l k).cells 87] w ∧ j ≤ 4 ∧ ∀ i, i < j → 0 ≤ psN (ps_ l k) i ∧ psN (ps_ l k) i ≤ 4611686018427387904) (fun j => 4 - j) 0 ⟨rfl, trivial⟩ ⟨H, Nat.zero_le _, fun i hi => absurd hi (Nat.not_lt_zero i)⟩ ?_
   clear H
   rintro j gh2 w ⟨H, hj, hQ⟩
   by_cases hj4 : j < 4
   ·have d2 : decide ((j : Int) < ((4 : Nat) : Int)) = true := decide_eq_true (by omega)
    repeat' (first | refine y1 sg ?_ | refine y3 ?_ | refine y5 sg ?_ | (refine y40 sg (hsN) ?_ ?_ ?_; (omega); (omega)) | (refine y46 sg (hsN) ((H.mem.sub (by intro p hp; rw [List.mem_singleton] at hp; subst hp; exact List.Mem.head _))) ?_ ?_; (omega)) | refine y13 ?_ | refine y14 ?_ | (refine y17 ?_ ?_; all_goals (intro h; try (exfalso; first | ((rw [d2] at h; cases h); done)))) | (with_reducible first | apply zB | apply zD | apply zC | apply zE | apply zF | apply zG | apply zO | apply zW) | refine zA ?_ | refine y21 ?_ | (refine y23 ?_ ?_; all_goals (intro h; try (exfalso; first | ((rw [d2] at h; cases h); done)))) | fail)
    all_goals simp only [Bool.not_eq_true', Bool.not_eq_false', decide_eq_true_eq, decide_eq_false_iff_not, beq_iff_eq, beq_eq_false_iff_ne, bne_iff_ne, bne_eq_false_iff_eq, ne_eq, ge_iff_le, gt_iff_lt] at *
    all_goals first
     | exact zQ rfl H.cl (congrArg Value.bool (Eq.symm (Bool.eq_false_iff.2 fun q => by
       have := (hf q).1.2.2.2 j hj4
       omega)))
     | exact zJ (j + 1) rfl ⟨zT (by omega), trivial⟩ ⟨H, hj4, fun i hi => by
       by_cases hij : i = j
       ·subst hij; omega
       ·exact hQ i (by omega)⟩ (by omega)
   ·obtain rfl : j = 4 := by omega
    have d2 : decide (((4 : Nat) : Int) < ((4 : Nat) : Int)) = false := decide_eq_false (by omega)
    rcases k with _ | k'
    ·have d3 : decide (((0 : Nat) : Int) > 0) = false := rfl
     repeat' (first | refine y1 sg ?_ | refine y2 sg ?_ | refine y16 ?_ | (with_reducible first | apply zB | apply zD | apply zC | apply zL | apply zG | apply zS) | (with_reducible apply zV; intro w hcl; replace H := H.ext hcl; clear hcl) | refine zA ?_ | refine y20 mixed ?_ | refine y24 ?_ | refine y22 ?_ | fail)
     all_goals exact zAY 1 rfl ⟨zT (by omega), trivial⟩ ⟨H.sub (List.nil_sublist _), by omega, fun i hi => by
      obtain rfl : i = 0 := by omega
      exact ⟨⟨by omega, by omega, by omega, hQ⟩, fun h => absurd h (Nat.lt_irrefl 0)⟩⟩ (by omega)
    ·have d3 : decide (((k' + 1 : Nat) : Int) > 0) = true := decide_eq_true (by omega)
     rw [Nat.add_sub_cancel] at hf
     repeat' (first | refine y1 sg ?_ | refine y2 sg ?_ | refine y6 sg ?_ | refine y8 sg H ?_ | (refine y41 sg (hs) ?_ ?_ ?_; (first | omega | (rw [w64 (by omega) (by omega)]; omega)); (first | omega | (rw [w64 (by omega) (by omega)]; omega))) | (refine y45 sg (hs) ((H.memF hF)) ?_ ?_; (omega)) | refine y15 ?_ | refine y16 ?_ | (refine y18 ?_ ?_; all_goals (intro h; try (exfalso; first | ((rw [d2] at h; cases h); done) | ((rw [d3] at h; cases h); done)))) | (with_reducible first | apply zB | apply zD | apply zC | apply zF | apply zL | apply zG | apply zO | apply zS | apply zW) | (with_reducible apply zV; intro w hcl; replace H := H.ext hcl; clear hcl) | refine zA ?_ | refine y20 mixed ?_ | refine y24 ?_ | refine y21 ?_ | refine y22 ?_ | (refine y23 ?_ ?_; all_goals (intro h; try (exfalso; first | ((rw [d2] at h; cases h); done) | ((rw [d3] at h; cases h); done)))) | fail)
     all_goals clear d3
     all_goals try simp only [Nat.add_sub_cancel] at *
     all_goals simp only [Bool.not_eq_true', Bool.not_eq_false', decide_eq_true_eq, decide_eq_false_iff_not, beq_iff_eq, beq_eq_false_iff_ne, bne_iff_ne, bne_eq_false_iff_eq, ne_eq, ge_iff_le, gt_iff_lt] at *
     all_goals first
      | exact zQ rfl H.cl (congrArg Value.bool (Eq.symm (Bool.eq_false_iff.2 fun q => by
        have := (hf q).2 (by omega)
        omega)))
      | exact zAY (k' + 1 + 1) rfl ⟨zT (by omega), trivial⟩ ⟨H.sub (List.nil_sublist _), by omega, fun i hi => by
        by_cases hik : i = k' + 1
        ·subst hik
         refine ⟨⟨by omega, by omega, by omega, hQ⟩, fun _ => ?_⟩
         rw [Nat.add_sub_cancel]; omega
        ·exact hP i (by omega)⟩ (by omega)
 ·obtain rfl : k = l.length := by omega
  have d1 : decide ((l.length : Int) < (l.length : Int)) = false := decide_eq_false (by omega)
  repeat' (first | refine y1 sg ?_ | (with_reducible first | apply zB | apply zD | apply zC | apply zF | apply zL | apply zS) | refine zA ?_ | refine y24 ?_ | (refine y23 ?_ ?_; all_goals (intro h; try (exfalso; first | ((rw [d1] at h; cases h); done)))) | fail)
  exact zQ rfl H.cl (congrArg Value.bool (hiff.2 hP).symm)
end Go.Proofs.YtggolnppckpdlaaGreat
