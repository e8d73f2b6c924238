/- Texts of ours, joined: the steps of the proof, or the claim's theorem. -/
import Derived.Test.YtggolnppckpdlaaGreatR02
import Derived.Test.YtggolnppckpdlaaGreatR28
set_option linter.unusedSimpArgs false
set_option linter.unusedVariables false
namespace Go.Proofs.YtggolnppckpdlaaGreat
open Go Go.Sk Go.RowKit
structure MayP (x : Auc) : Prop where
 id : zp x.id 1099511627776 = true
 seller : zp x.seller 64 = true
 inst : zp x.inst 16 = true
 qty : zp x.qty 1048576 = true
 reserve : zp x.reserve 1125899906842624 = true
 fin : zp x.fin 1099511627776 = true
 step0 : x.sealed = true → x.step = 0
 step1 : x.sealed = false → zp x.step 1125899906842624 = true
 len16 : x.bids.length ≤ 16
 len1 : x.sealed = false → x.bids.length ≤ 1
 high : x.sealed = false → ∀ j, j < x.bids.length → x.reserve ≤ (x.bids.getD j default).amount
 ok : ∀ j, j < x.bids.length → zA6 x j = false
theorem mayP {x : Auc} : zBX x = true ↔ MayP x := by
 constructor
 ·intro h
  obtain ⟨h1, h2, h3, h4, h5, h6, h7, h8⟩ := zCL h
  refine ⟨h1, h2, h3, h4, h5, h6, fun he => ?_, fun he => ?_, ?_, fun he => ?_, fun he j hj => ?_, fun j hj => zOH h hj⟩
  ·simp only [zAn, he, if_true, zEb, Bool.and_eq_true, beq_iff_eq] at h7; exact h7.1
  ·simp only [zAn, he, Bool.false_eq_true, if_false, zDw, Bool.and_eq_true] at h7; exact h7.1
  ·rcases Bool.eq_false_or_eq_true x.sealed with he | he
   ·simp only [zAn, he, if_true, zEb, Bool.and_eq_true, decide_eq_true_eq] at h7; omega
   ·simp only [zAn, he, Bool.false_eq_true, if_false, zDw, Bool.and_eq_true, decide_eq_true_eq] at h7; omega
  ·exact (zLF h he).1
  ·obtain ⟨g1, g2⟩ := zLF h he
   obtain rfl : j = 0 := by omega
   rcases g2 with g2 | g2
   ·omega
   ·exact g2
 ·intro h
  have h8 : zCA x = true := zMN h.ok
  have h7 : zAn x = true := by
   have hl := h.len16
   rcases Bool.eq_false_or_eq_true x.sealed with he | he
   ·simp only [zAn, he, if_true, zEb, Bool.and_eq_true, beq_iff_eq, decide_eq_true_eq]
    exact ⟨h.step0 he, by omega⟩
   ·have g := h.len1 he
    simp only [zAn, he, Bool.false_eq_true, if_false, zDw, Bool.and_eq_true, decide_eq_true_eq, Bool.or_eq_true, beq_iff_eq]
    refine ⟨h.step1 he, by omega, ?_⟩
    rcases Nat.eq_zero_or_pos x.bids.length with h0 | h0
    ·left; omega
    ·right; exact h.high he 0 h0
  simp only [zBX, h.id, h.seller, h.inst, h.qty, h.reserve, h.fin, h7, h8, Bool.and_self]
theorem zJx {x : Auc} (h : MayP x → False) : Value.bool false = Value.bool (zBX x) := by
 rcases Bool.eq_false_or_eq_true (zBX x) with h1 | h1
 ·exact (h (mayP.1 h1)).elim
 ·rw [h1]
set_option maxRecDepth 20000 in
set_option maxHeartbeats 4000000 in
theorem zJy {a : Option Addr} {cap : Nat} (x : Auc) {F : zI} (w0 : World) (hF : Mem w0 F) (hs0 : Bids F a cap x.bids) :
  Calls Tryz.prog 228 [.agg (x.cells a cap).toArray].toArray w0 (Ret (.bool (zBX x)) w0) := by
 obtain ⟨hn, hc, b0, off, cs, T, fr, hs⟩ := id hs0
 refine enter [.tmp 2] Tryz.func228 rfl Tryz.ntmps228 rfl rfl ?_
 have H := zH w0
 rcases Bool.eq_false_or_eq_true x.sealed with hse | hse
 all_goals repeat' (first | refine y1 sg ?_ | refine y3 ?_ | refine y5 sg ?_ | refine y7 sg H ?_ | (refine y9 H ?_; intro b w H) | (refine' y30 zM8 ?_ ?_; rotate_left; exact c_in _ _ _; intro w hcl; replace H := H.ext hcl; clear hcl) | refine y13 ?_ | refine y14 ?_ | (refine y17 ?_ ?_; all_goals (intro h; try (exfalso; first | (rw [hse] at h; cases h; done)))) | (with_reducible first | apply zB | apply zD | apply zC | apply zE | apply zF | apply zG | apply zO) | refine zA ?_ | refine y21 ?_ | refine y22 ?_ | (refine y23 ?_ ?_; all_goals (intro h; try (exfalso; first | (rw [hse] at h; cases h; done)))) | fail)
 all_goals try exact zQ rfl H.cl (zJx fun (hm : MayP x) => by
  have h1 := hm.id; have h2 := hm.seller; have h3 := hm.inst; have h4 := hm.qty; have h5 := hm.reserve; have h6 := hm.fin; have h7 := hm.step0; have h8 := hm.step1; have h9 := hm.len16; have h10 := hm.len1
  clear hm H
  first | (simp_all; done) | (simp_all; omega))
 all_goals
  have hpre : (∀ j, j < x.bids.length → zA6 x j = false) → (x.sealed = false → ∀ j, j < x.bids.length → x.reserve ≤ (x.bids.getD j default).amount) → zBX x = true := by
   intro g1 g2
   clear H
   refine mayP.2 ⟨?_, ?_, ?_, ?_, ?_, ?_, ?_, ?_, ?_, ?_, g2, g1⟩
   all_goals clear g1 g2 hs hs0
   all_goals first | (simp_all; done) | (simp_all; omega)
  refine zK [(2, 5), (73, 127)] (fun k : Nat => [(3, .int .i64 (k : Int))])
   (fun k w => k ≤ x.bids.length ∧ (∀ j, j < k → zA6 x j = false) ∧ (x.sealed = false → ∀ j, j < k → x.reserve ≤ (x.bids.getD j default).amount) ∧ St w0 [cb _ (x.cells a cap) 81] w) (fun k => x.bids.length - k) 0
   ⟨rfl, trivial⟩ ⟨Nat.zero_le _, fun j hj => absurd hj (Nat.not_lt_zero _), fun _ j hj => absurd hj (Nat.not_lt_zero _), H⟩ ?_
  clear H
  rintro k g w ⟨hk, hk1, hk2, H⟩
  repeat' (first | refine y1 sg ?_ | refine y3 ?_ | refine y7 sg H ?_ | (with_reducible first | apply zB | apply zD | apply zC) | refine zA ?_ | fail)
  refine zM rfl (fun h2 => ?_) (fun h2 => ?_)
  ·have hlt : k < x.bids.length := by simpa using h2
   repeat' (first | refine y1 sg ?_ | refine y3 ?_ | refine y5 sg ?_ | refine y7 sg H ?_ | (refine y10 sg H ?_; intro b w H) | (refine y11 sg H ?_; intro w H) | (refine y40 sg (hs) ?_ ?_ ?_; (omega); (omega)) | (refine y42 sg (hs) ((H.memF hF)) ?_ ?_; (omega)) | (refine' y30 zM8 ?_ ?_; rotate_left; exact c_in _ _ _; intro w hcl; replace H := H.ext hcl; clear hcl) | refine y13 ?_ | refine y14 ?_ | (refine y17 ?_ ?_; all_goals (intro h; try (exfalso; first | (rw [hse] at h; cases h; done)))) | (with_reducible first | apply zB | apply zD | apply zC | apply zE | apply zF | apply zG | apply zO | apply zW) | refine zA ?_ | refine y21 ?_ | refine y22 ?_ | (refine y23 ?_ ?_; all_goals (intro h; try (exfalso; first | (rw [hse] at h; cases h; done)))) | fail)
   all_goals try exact zQ rfl H.cl (zJx fun (hm : MayP x) => by
    have h1 := zEH.1 (hm.ok k hlt)
    have h2 := fun he => hm.high he k hlt
    clear hm H
    first | (simp_all; done) | (simp_all; omega))
   have ha : zp (x.bids.getD k default).acct 64 = true ∧ (x.bids.getD k default).acct ≠ x.seller ∧ zp (x.bids.getD k default).amount 1125899906842624 = true := by
    clear H
    refine ⟨?_, ?_, ?_⟩ <;> simp_all
   have hb : x.sealed = false → x.reserve ≤ (x.bids.getD k default).amount := by
    clear H
    intro he
    first | (simp_all; done) | (simp_all; omega)
   refine zK [(2, 2), (5, 5), (114, 127)] (fun i : Nat => [(5, .int .i64 (i : Int))])
    (fun i w => i ≤ k ∧ (∀ j, j < i → (x.bids.getD j default).acct ≠ (x.bids.getD k default).acct) ∧ St w0 [cb _ (x.bids.getD k default).cells 78, cb _ (x.cells a cap) 81] w) (fun i => k - i) 0
    ⟨rfl, trivial⟩ ⟨Nat.zero_le _, fun j hj => absurd hj (Nat.not_lt_zero _), H⟩ ?_
   clear H
   rintro i g' w ⟨hi, hi1, H⟩
   repeat' (first | refine y1 sg ?_ | (with_reducible first | apply zB | apply zD | apply zC) | refine zA ?_ | fail)
   refine zM rfl (fun h3 => ?_) (fun h3 => ?_)
   ·have hik : i < k := by simpa using h3
    repeat' (first | refine y2 sg ?_ | refine y4 ?_ | refine y8 sg H ?_ | (refine y41 sg (hs) ?_ ?_ ?_; (omega); (omega)) | (refine y45 sg (hs) ((H.memF hF)) ?_ ?_; (omega)) | (with_reducible apply zV; intro w hcl; replace H := H.ext hcl; clear hcl) | (with_reducible first | apply zD | apply zC | apply zE | apply zG) | refine y20 mixed ?_ | fail)
    refine zM rfl (fun h4 => ?_) (fun h4 => ?_)
    ·repeat' (first | refine y1 sg ?_ | (with_reducible first | apply zB | apply zD | apply zC | apply zF | apply zO | apply zW) | refine zA ?_ | fail)
     exact zQ rfl H.cl (zJx fun (hm : MayP x) => (zEH.1 (hm.ok k hlt)).2.2.2 i hik (by simpa using h4))
    ·repeat' (first | refine y1 sg ?_ | (with_reducible first | apply zB | apply zD | apply zG) | refine zA ?_ | fail)
     refine zJ (i + 1) rfl ⟨zT (by omega), trivial⟩ ⟨hik, fun j hj => ?_, H⟩ (by omega)
     by_cases hji : j = i
     ·subst hji; simpa using h4
     ·exact hi1 j (by omega)
   ·repeat' (first | refine y1 sg ?_ | (with_reducible first | apply zB | apply zD | apply zL) | refine zA ?_ | fail)
    have hik : i = k := by simp at h3; omega
    subst hik
    refine zAY (i + 1) rfl ⟨zT (by omega), trivial⟩ ⟨hlt, fun j hj => ?_, fun he j hj => ?_, H.sub (by repeat (first | exact List.Sublist.refl _ | exact List.nil_sublist _ | apply List.Sublist.cons_cons | apply List.Sublist.cons))⟩ (by omega)
    ·by_cases hji : j = i
     ·subst hji; exact zEH.2 ⟨ha.1, ha.2.1, ha.2.2, hi1⟩
     ·exact hk1 j (by omega)
    ·by_cases hji : j = i
     ·subst hji; exact hb he
     ·exact hk2 he j (by omega)
  ·repeat' (first | refine y1 sg ?_ | (with_reducible first | apply zB | apply zD | apply zC | apply zF | apply zL | apply zS) | refine zA ?_ | refine y24 ?_ | fail)
   have hkn : k = x.bids.length := by simp at h2; omega
   subst hkn
   exact zQ rfl H.cl (by rw [hpre hk1 hk2])
end Go.Proofs.YtggolnppckpdlaaGreat
