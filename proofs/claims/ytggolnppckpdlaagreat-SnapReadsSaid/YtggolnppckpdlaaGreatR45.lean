/- Texts of ours, joined: the steps of the proof, or the claim's theorem. -/
import Derived.Test.YtggolnppckpdlaaGreatR44
set_option linter.unusedSimpArgs false
set_option linter.unusedVariables false
namespace Go.Proofs.YtggolnppckpdlaaGreat
open Go Go.Sk Go.RowKit
attribute [local irreducible] Go.Calls
set_option maxHeartbeats 8000000 in
theorem zQt {F : zI} {a : Option Addr} {cap : Nat} (l : List Ln) (w0 : World) (hF : Mem w0 F) (hs : SlA F 5 a l.length cap (lnl l)) :
  Calls Tryz.prog 155 [.slice a l.length cap].toArray w0 (Ret (.bool (zEl l)) w0) := by
 have hs0 := hs
 obtain ⟨hnc, hcb, b0, off, cs, T, fr, hs⟩ := hs
 have hiff := lins_R (l := l)
 obtain ⟨R, hR⟩ : ∃ R, zEl l = R := ⟨_, rfl⟩
 rw [hR] at hiff ⊢
 clear hR
 refine enter [.tmp 2] Tryz.func155 rfl Tryz.ntmps155 rfl rfl ?_
 have H := zH w0
 repeat' (first | refine y1 sg ?_ | (with_reducible first | apply zB | apply zD | apply zC | apply zE) | refine zA ?_ | fail)
 refine zK [(2, 99)] (fun k : Nat => [(3, .int .i64 (k : Int))]) (fun k w => St w0 [] w ∧ k ≤ l.length ∧ ∀ i, i < k → LnR l i) (fun k => l.length - k) 0 ⟨rfl, trivial⟩ ⟨H, Nat.zero_le _, fun i hi => absurd hi (Nat.not_lt_zero i)⟩ ?_
 clear H
 rintro k gh w ⟨H, hk, hP⟩
 by_cases hlt : k < l.length
 ·have d1 : decide ((k : Int) < (l.length : Int)) = true := decide_eq_true (by omega)
  have hf : R = true → LnR l k := fun q => hiff.1 q k hlt
  obtain ⟨z1, z2⟩ := zFB l k (ln_ l k).acct fun i hi => (hP i hi).1.2.2.2.2.2
  have hB := fun w hM => zKP (F := F) l k (by omega) (ln_ l k).acct w hM hs0
  unfold LnR at hf
  obtain ⟨z, hz⟩ : ∃ z, zAO l k (ln_ l k).acct = z := ⟨_, rfl⟩
  rw [hz] at hB hf z1 z2
  have done : ((1 ≤ (ln_ l k).acct ∧ (ln_ l k).acct ≤ 64) ∧ (0 ≤ (ln_ l k).seq ∧ (ln_ l k).seq < 1048576) ∧ (0 < k → (ln_ l (k - 1)).seq ≤ (ln_ l k).seq) ∧ ((ln_ l k).kind = 6 ∨ (ln_ l k).kind = 7 ∨ (ln_ l k).kind = 13 ∨ (ln_ l k).kind = 18 ∨ (ln_ l k).kind = 21) ∧ (ln_ l k).delta ≠ 0 ∧ (0 ≤ (ln_ l k).bal ∧ (ln_ l k).bal ≤ 1125899906842624)) ∧ (ln_ l k).bal - z = (ln_ l k).delta → ∀ i, i < k + 1 → LnR l i := fun h i hi => by
   by_cases hik : i = k
   ·subst hik; unfold LnR; rw [hz]; exact h
   ·exact hP i (by omega)
  clear hz hP
  have hwz : 0 ≤ (ln_ l k).bal → (ln_ l k).bal ≤ 1125899906842624 → IntKind.i64.wrap ((ln_ l k).bal - z) = (ln_ l k).bal - z := fun a b => w64 (by omega) (by omega)
  rcases k with _ | j
  ·have d2 : decide (((0 : Nat) : Int) > 0) = false := rfl
   repeat' (first | refine y1 sg ?_ | refine y2 sg ?_ | refine y3 ?_ | refine y4 ?_ | refine y6 sg ?_ | refine y8 sg H ?_ | (refine y10 sg H ?_; intro b w H) | (refine y11 sg H ?_; intro w H) | (refine y40 sg (hs) ?_ ?_ ?_; (omega); (omega)) | (refine y42 sg (hs) ((H.memF hF)) ?_ ?_; (omega)) | ((with_reducible apply zo); exact rfl; exact rfl; exact Yq.sliceHi sg (j := 0) rfl rfl rfl rfl rfl rfl rfl (by decide) (by omega)) | (refine' y31 zMw ?_ ?_; rotate_left; exact (fun _ hcl => hB _ ((H.ext hcl).memF hF))) | refine y15 ?_ | refine y16 ?_ | (refine y18 ?_ ?_; all_goals (intro h; try (exfalso; first | ((rw [d1] at h; cases h); done) | ((rw [d2] at h; cases h); done)))) | (with_reducible first | apply zB | apply zD | apply zC | apply zE | apply zF | apply zG | apply zO | apply zW) | (with_reducible apply zV; intro w hcl; replace H := H.ext hcl; clear hcl) | refine zA ?_ | refine y20 mixed ?_ | refine y21 ?_ | (refine y23 ?_ ?_; all_goals (intro h; try (exfalso; first | ((rw [d1] at h; cases h); done) | ((rw [d2] at h; cases h); done)))) | fail)
   all_goals simp only [Bool.not_eq_true', Bool.not_eq_false', decide_eq_true_eq, decide_eq_false_iff_not, beq_iff_eq, beq_eq_false_iff_ne, bne_iff_ne, bne_eq_false_iff_eq, ne_eq, ge_iff_le, gt_iff_lt] at *
   all_goals first
    | exact zQ rfl H.cl (congrArg Value.bool (Eq.symm (Bool.eq_false_iff.2 fun q => by
      obtain ⟨⟨g1, g2, g3, g4, g5, g6⟩, g7⟩ := hf q
      have hw := hwz g6.1 g6.2
      omega)))
    | exact zJ 1 rfl ⟨zT (by omega), trivial⟩ ⟨H.sub (List.nil_sublist _), by omega, done ⟨⟨by omega, by omega, by omega, by omega, by omega, by omega⟩, by have hw := hwz (by omega) (by omega); omega⟩⟩ (by omega)
  ·have d2 : decide (((j + 1 : Nat) : Int) > 0) = true := decide_eq_true (by omega)
   rw [Nat.add_sub_cancel] at hf done
   repeat' (first | refine y1 sg ?_ | refine y2 sg ?_ | refine y3 ?_ | refine y4 ?_ | refine y6 sg ?_ | refine y8 sg H ?_ | (refine y10 sg H ?_; intro b w H) | (refine y11 sg H ?_; intro w H) | (refine y40 sg (hs) ?_ ?_ ?_; (first | omega | (rw [w64 (by omega) (by omega)]; omega)); (first | omega | (rw [w64 (by omega) (by omega)]; omega))) | (refine y41 sg (hs) ?_ ?_ ?_; (first | omega | (rw [w64 (by omega) (by omega)]; omega)); (first | omega | (rw [w64 (by omega) (by omega)]; omega))) | (refine y42 sg (hs) ((H.memF hF)) ?_ ?_; (omega)) | (refine y45 sg (hs) ((H.memF hF)) ?_ ?_; (omega)) | ((with_reducible apply zo); exact rfl; exact rfl; exact Yq.sliceHi sg (j := j + 1) rfl rfl rfl rfl rfl rfl (Int.toNat_natCast (j + 1)) (by omega) (by omega)) | (refine' y31 zMw ?_ ?_; rotate_left; exact (fun _ hcl => hB _ ((H.ext hcl).memF hF))) | refine y15 ?_ | refine y16 ?_ | (refine y18 ?_ ?_; all_goals (intro h; try (exfalso; first | ((rw [d1] at h; cases h); done) | ((rw [d2] at h; cases h); done)))) | (with_reducible first | apply zB | apply zD | apply zC | apply zE | apply zF | apply zG | apply zO | apply zW) | (with_reducible apply zV; intro w hcl; replace H := H.ext hcl; clear hcl) | refine zA ?_ | refine y20 mixed ?_ | refine y21 ?_ | (refine y23 ?_ ?_; all_goals (intro h; try (exfalso; first | ((rw [d1] at h; cases h); done) | ((rw [d2] at h; cases h); done)))) | fail)
   all_goals clear d2
   all_goals try simp only [Nat.add_sub_cancel] at *
   all_goals simp only [Bool.not_eq_true', Bool.not_eq_false', decide_eq_true_eq, decide_eq_false_iff_not, beq_iff_eq, beq_eq_false_iff_ne, bne_iff_ne, bne_eq_false_iff_eq, ne_eq, ge_iff_le, gt_iff_lt] at *
   all_goals first
    | exact zQ rfl H.cl (congrArg Value.bool (Eq.symm (Bool.eq_false_iff.2 fun q => by
      obtain ⟨⟨g1, g2, g3, g4, g5, g6⟩, g7⟩ := hf q
      have hw := hwz g6.1 g6.2
      omega)))
    | exact zJ (j + 1 + 1) rfl ⟨zT (by omega), trivial⟩ ⟨H.sub (List.nil_sublist _), by omega, done ⟨⟨by omega, by omega, by omega, by omega, by omega, by omega⟩, by have hw := hwz (by omega) (by omega); omega⟩⟩ (by omega)
 ·obtain rfl : k = l.length := by omega
  have d1 : decide ((l.length : Int) < (l.length : Int)) = false := decide_eq_false (by omega)
  repeat' (first | refine y1 sg ?_ | (with_reducible first | apply zB | apply zD | apply zC | apply zF | apply zL | apply zS) | refine zA ?_ | refine y24 ?_ | (refine y23 ?_ ?_; all_goals (intro h; try (exfalso; first | ((rw [d1] at h; cases h); done)))) | fail)
  exact zQ rfl H.cl (congrArg Value.bool (hiff.2 hP).symm)
theorem zQu {F : zI} (v : Vws) (p : VPt) (w0 : World) (hF : Mem w0 F) (hs : VwM F v p) :
  Calls Tryz.prog 65 [.agg (v.cells p).toArray].toArray w0 (Ret (.bool (zBP v)) w0) := by
 refine enter [.tmp 2] Tryz.func65 rfl Tryz.ntmps65 rfl rfl ?_
 have H := zH w0
 repeat' (first | refine y1 sg ?_ | refine y3 ?_ | refine y5 sg ?_ | refine y7 sg H ?_ | (refine y9 H ?_; intro b w H) | (refine' y30 ent153 ?_ ?_; rotate_left; exact zQr v.opn v.lots _ (H.memF hF) hs.op hs.lt; intro w hcl; replace H := H.ext hcl; clear hcl) | (refine' y30 ent154 ?_ ?_; rotate_left; exact zQs v.poss _ (H.memF hF) hs.ps; intro w hcl; replace H := H.ext hcl; clear hcl) | (refine' y30 ent155 ?_ ?_; rotate_left; exact zQt v.lins _ (H.memF hF) hs.ln; intro w hcl; replace H := H.ext hcl; clear hcl) | refine y13 ?_ | refine y14 ?_ | (refine y17 ?_ ?_; all_goals intro h) | (with_reducible first | apply zB | apply zD | apply zC | apply zF) | refine zA ?_ | fail)
 all_goals exact zQ rfl H.cl (congrArg Value.bool (by unfold zBP; simp only [*, Bool.true_and, Bool.and_true, Bool.false_and, Bool.and_false]))
end Go.Proofs.YtggolnppckpdlaaGreat
