/- Texts of ours, joined: the steps of the proof, or the claim's theorem. -/
import Derived.Test.YtggolnppckpdlaaGreatR25
set_option linter.unusedSimpArgs false
set_option linter.unusedVariables false
namespace Go.Proofs.YtggolnppckpdlaaGreat
open Go Go.Sk Go.RowKit
attribute [local irreducible] Go.Calls
theorem zEk (n : Int) (w : World) : Calls Tryz.prog 179 [.int .i64 n].toArray w (Ret (.bool (zX n 0 4611686018427387904)) w) := by
 refine enter [.tmp 2] Tryz.func179 rfl Tryz.ntmps179 rfl rfl ?_
 have H := zH w
 repeat' (first | refine y1 sg ?_ | refine y5 sg ?_ | refine y13 ?_ | refine y14 ?_ | (refine y17 ?_ ?_; all_goals intro h) | (with_reducible first | apply zB | apply zD | apply zC | apply zF) | refine zA ?_ | fail)
 all_goals simp only [decide_eq_true_eq, decide_eq_false_iff_not, ge_iff_le] at *
 all_goals exact zQ rfl H.cl (congrArg Value.bool (by unfold zX; simp only [*, decide_true, decide_false, Bool.true_and, Bool.and_true, Bool.false_and, Bool.and_false]))
def cmpS (a b : Psn) : Int := zJd a.acct a.inst b.acct b.inst
set_option maxHeartbeats 2000000 in
theorem zJp (a b : Psn) (w0 : World) : Calls Tryz.prog 180 [.agg a.cells.toArray, .agg b.cells.toArray].toArray w0 (Ret (.int .i64 (cmpS a b)) w0) := by
 refine enter [.tmp 4] Tryz.func180 rfl Tryz.ntmps180 rfl rfl ?_
 have H := zH w0
 repeat' (first | refine y1 sg ?_ | refine y2 sg ?_ | refine y3 ?_ | refine y4 ?_ | refine y8 sg H ?_ | (refine y9 H ?_; intro b w H) | refine y12 ?_ | (refine CW.regionR mixed ?_; intro w hcl; replace H := H.ext hcl; clear hcl; (with_reducible apply RW.quiet 10); exact rfl; decide +kernel; simp only [List.append_eq, List.cons_append, List.nil_append, List.take_succ_cons, List.take_zero, List.drop_zero]) | (refine' y31 zJQ ?_ ?_; rotate_left; exact (fun _ hcl => zEA _ _ _)) | (refine z14 sg H ?_; intro b w H) | (refine' y30 zJP ?_ ?_; rotate_left; exact zNW _ _ _ (H.mem) (List.Mem.head _); intro w hcl; replace H := H.ext hcl; clear hcl) | (with_reducible first | apply zB | apply zD | apply zC | apply zF) | (with_reducible apply zV; intro w hcl; replace H := H.ext hcl; clear hcl) | refine y19 ?_ | refine zA ?_ | fail)
 exact zQ rfl H.cl rfl
def tot (n : Int) : Bool := zX n 0 4611686018427387904
def zE2 (p : Psn) : Bool := zX p.acct 1 64 && (zX p.inst 1 16 && (tot p.bought && (tot p.sold && (tot p.spent && (tot p.got && !(p.bought == 0 && p.sold == 0))))))
def zFL (l : List Psn) : Bool := (List.range l.length).all fun k => zE2 (ps_ l k) && (k == 0 || decide (cmpS (ps_ l (k - 1)) (ps_ l k) < 0))
theorem zDn {l : List Psn} : zFL l = true ↔ ∀ k, k < l.length → zE2 (ps_ l k) = true ∧ (k = 0 ∨ cmpS (ps_ l (k - 1)) (ps_ l k) < 0) := by
 unfold zFL
 simp only [List.all_eq_true, List.mem_range, Bool.and_eq_true, Bool.or_eq_true, beq_iff_eq, decide_eq_true_eq]
theorem zDG (p : Psn) : zE2 p = true ↔ (1 ≤ p.acct ∧ p.acct ≤ 64) ∧ (1 ≤ p.inst ∧ p.inst ≤ 16) ∧ tot p.bought = true ∧ tot p.sold = true ∧ tot p.spent = true ∧ tot p.got = true ∧ ¬ (p.bought = 0 ∧ p.sold = 0) := by
 unfold zE2
 simp only [Bool.and_eq_true, zAC, Bool.not_eq_true', ← Bool.not_eq_true, beq_iff_eq]
set_option maxHeartbeats 8000000 in
theorem c_pMay {F : zI} {a : Option Addr} {cap : Nat} (l : List Psn) (w0 : World) (hF : Mem w0 F) (hs : SlA F 6 a l.length cap (psl l)) :
  Calls Tryz.prog 85 [.slice a l.length cap].toArray w0 (Ret (.bool (zFL l)) w0) := by
 obtain ⟨hnc, hcb, b0, off, cs, T, fr, hs⟩ := hs
 refine enter [.tmp 2] Tryz.func85 rfl Tryz.ntmps85 rfl rfl ?_
 have H := zH w0
 repeat' (first | refine y1 sg ?_ | (with_reducible first | apply zB | apply zD | apply zC | apply zE) | refine zA ?_ | fail)
 refine zK [(2, 5), (8, 81)] (fun k : Nat => [(8, .int .i64 (k : Int))]) (fun k w => k ≤ l.length ∧ (∀ j, j < k → zE2 (ps_ l j) = true ∧ (j = 0 ∨ cmpS (ps_ l (j - 1)) (ps_ l j) < 0)) ∧ St w0 [] w) (fun k => l.length - k) 0 ⟨rfl, trivial⟩ ⟨Nat.zero_le _, fun j hj => absurd hj (Nat.not_lt_zero _), H⟩ ?_
 clear H
 rintro k gh w ⟨hk, hP, H⟩
 repeat' (first | refine y1 sg ?_ | (with_reducible first | apply zB | apply zD | apply zC) | refine zA ?_ | fail)
 refine zM rfl (fun h => ?_) (fun h => ?_)
 ·have hlt : k < l.length := by have := of_decide_eq_true h; omega
  clear h
  have hm := zDG (ps_ l k)
  have hfacts : zFL l = true → zE2 (ps_ l k) = true ∧ (k = 0 ∨ cmpS (ps_ l (k - 1)) (ps_ l k) < 0) := fun q => zDn.1 q k hlt
  obtain ⟨t1, ht1⟩ : ∃ t, tot (ps_ l k).bought = t := ⟨_, rfl⟩
  obtain ⟨t2, ht2⟩ : ∃ t, tot (ps_ l k).sold = t := ⟨_, rfl⟩
  obtain ⟨t3, ht3⟩ : ∃ t, tot (ps_ l k).spent = t := ⟨_, rfl⟩
  obtain ⟨t4, ht4⟩ : ∃ t, tot (ps_ l k).got = t := ⟨_, rfl⟩
  rw [ht1, ht2, ht3, ht4] at hm
  have c1 := zEk (ps_ l k).bought
  have c2 := zEk (ps_ l k).sold
  have c3 := zEk (ps_ l k).spent
  have c4 := zEk (ps_ l k).got
  change ∀ w, Calls _ _ _ _ (Ret (.bool (tot _)) w) at c1 c2 c3 c4
  rw [ht1] at c1
  rw [ht2] at c2
  rw [ht3] at c3
  rw [ht4] at c4
  rcases k with _ | j
  ·have hpos : decide (((0 : Nat) : Int) > 0) = false := rfl
   repeat' (first | refine y1 sg ?_ | refine y2 sg ?_ | refine y3 ?_ | refine y5 sg ?_ | refine y6 sg ?_ | refine y7 sg H ?_ | refine y8 sg H ?_ | (refine y10 sg H ?_; intro b w H) | (refine y11 sg H ?_; intro w H) | (refine y40 sg (hs) ?_ ?_ ?_; (omega); (omega)) | (refine y42 sg (hs) ((H.memF hF)) ?_ ?_; (omega)) | (refine' y31 zDR ?_ ?_; rotate_left; exact (fun _ hcl => c1 _)) | (refine' y31 zDR ?_ ?_; rotate_left; exact (fun _ hcl => c2 _)) | (refine' y31 zDR ?_ ?_; rotate_left; exact (fun _ hcl => c3 _)) | (refine' y31 zDR ?_ ?_; rotate_left; exact (fun _ hcl => c4 _)) | refine y13 ?_ | refine y14 ?_ | refine y15 ?_ | refine y16 ?_ | (refine y17 ?_ ?_; all_goals (intro h; try (exfalso; first | ((rw [hpos] at h; cases h); done)))) | (refine y18 ?_ ?_; all_goals (intro h; try (exfalso; first | ((rw [hpos] at h; cases h); done)))) | (with_reducible first | apply zB | apply zD | apply zC | apply zE | apply zF | apply zG | apply zO | apply zW) | (with_reducible apply zV; intro w hcl; replace H := H.ext hcl; clear hcl) | refine zA ?_ | refine y20 mixed ?_ | refine y21 ?_ | refine y22 ?_ | fail)
   all_goals simp only [Bool.not_eq_true', Bool.not_eq_false', decide_eq_true_eq, decide_eq_false_iff_not, beq_iff_eq, beq_eq_false_iff_ne, ne_eq, ge_iff_le] at *
   all_goals first
    | exact zQ rfl H.cl (congrArg Value.bool (noB fun q => by
      obtain ⟨q1, q2⟩ := hfacts q
      obtain ⟨⟨g1, g2⟩, ⟨g3, g4⟩, g5, g6, g7, g8, g9⟩ := hm.1 q1
      first | omega | (cases g5.symm.trans ‹t1 = false›) | (cases g6.symm.trans ‹t2 = false›) | (cases g7.symm.trans ‹t3 = false›) | (cases g8.symm.trans ‹t4 = false›)))
    | exact zJ 1 rfl ⟨zT (by omega), trivial⟩ ⟨by omega, fun i hi => by
      rcases (show i < 0 ∨ i = 0 by omega) with g | rfl
      ·exact hP i g
      ·exact ⟨hm.2 ⟨⟨by omega, by omega⟩, ⟨by omega, by omega⟩, by assumption, by assumption, by assumption, by assumption, by omega⟩, by first | omega | (simp only [Nat.add_sub_cancel]; omega)⟩, H.sub (List.sublist_cons_self _ _)⟩ (by omega)
    | (exfalso; omega)
  ·have hpos : decide (((j + 1 : Nat) : Int) > 0) = true := decide_eq_true (by omega)
   repeat' (first | refine y1 sg ?_ | refine y2 sg ?_ | refine y3 ?_ | refine y5 sg ?_ | refine y6 sg ?_ | refine y7 sg H ?_ | refine y8 sg H ?_ | (refine y10 sg H ?_; intro b w H) | (refine y11 sg H ?_; intro w H) | (refine y40 sg (hs) ?_ ?_ ?_; (first | omega | (rw [w64 (by omega) (by omega)]; omega)); (first | omega | (rw [w64 (by omega) (by omega)]; omega))) | (refine y41 sg (hs) ?_ ?_ ?_; (first | omega | (rw [w64 (by omega) (by omega)]; omega)); (first | omega | (rw [w64 (by omega) (by omega)]; omega))) | (refine y42 sg (hs) ((H.memF hF)) ?_ ?_; (omega)) | (refine y43 sg (hs) ((H.memF hF)) ?_ ?_; (omega)) | (refine' y31 zDR ?_ ?_; rotate_left; exact (fun _ hcl => c1 _)) | (refine' y31 zDR ?_ ?_; rotate_left; exact (fun _ hcl => c2 _)) | (refine' y31 zDR ?_ ?_; rotate_left; exact (fun _ hcl => c3 _)) | (refine' y31 zDR ?_ ?_; rotate_left; exact (fun _ hcl => c4 _)) | (refine' y31 ent180 ?_ ?_; rotate_left; exact (fun _ hcl => zJp (ps_ l j) (ps_ l (j + 1)) _)) | refine y13 ?_ | refine y14 ?_ | refine y15 ?_ | refine y16 ?_ | (refine y17 ?_ ?_; all_goals (intro h; try (exfalso; first | ((rw [hpos] at h; cases h); done)))) | (refine y18 ?_ ?_; all_goals (intro h; try (exfalso; first | ((rw [hpos] at h; cases h); done)))) | (with_reducible first | apply zB | apply zD | apply zC | apply zE | apply zF | apply zG | apply zO | apply zW) | (with_reducible apply zV; intro w hcl; replace H := H.ext hcl; clear hcl) | refine zA ?_ | refine y20 mixed ?_ | refine y21 ?_ | (refine y23 ?_ ?_; all_goals (intro h; try (exfalso; first | ((rw [hpos] at h; cases h); done)))) | fail)
   all_goals clear hpos
   all_goals simp only [Nat.add_sub_cancel] at hfacts
   all_goals simp only [Bool.not_eq_true', Bool.not_eq_false', decide_eq_true_eq, decide_eq_false_iff_not, beq_iff_eq, beq_eq_false_iff_ne, ne_eq, ge_iff_le] at *
   all_goals first
    | exact zQ rfl H.cl (congrArg Value.bool (noB fun q => by
      obtain ⟨q1, q2⟩ := hfacts q
      obtain ⟨⟨g1, g2⟩, ⟨g3, g4⟩, g5, g6, g7, g8, g9⟩ := hm.1 q1
      first | omega | (cases g5.symm.trans ‹t1 = false›) | (cases g6.symm.trans ‹t2 = false›) | (cases g7.symm.trans ‹t3 = false›) | (cases g8.symm.trans ‹t4 = false›)))
    | exact zJ (j + 1 + 1) rfl ⟨zT (by omega), trivial⟩ ⟨by omega, fun i hi => by
      rcases (show i < (j + 1) ∨ i = (j + 1) by omega) with g | rfl
      ·exact hP i g
      ·exact ⟨hm.2 ⟨⟨by omega, by omega⟩, ⟨by omega, by omega⟩, by assumption, by assumption, by assumption, by assumption, by omega⟩, by first | omega | (simp only [Nat.add_sub_cancel]; omega)⟩, H.sub (List.sublist_cons_self _ _)⟩ (by omega)
    | (exfalso; omega)
 ·obtain rfl : k = l.length := by have := of_decide_eq_false h; omega
  repeat' (first | refine y1 sg ?_ | (with_reducible first | apply zB | apply zD | apply zC | apply zF | apply zL | apply zS) | refine zA ?_ | refine y24 ?_ | fail)
  exact zQ rfl H.cl (congrArg Value.bool (zDn.2 hP).symm)
end Go.Proofs.YtggolnppckpdlaaGreat
