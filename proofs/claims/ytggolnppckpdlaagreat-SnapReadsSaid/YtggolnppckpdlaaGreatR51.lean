/- Texts of ours, joined: the steps of the proof, or the claim's theorem. -/
import Derived.Test.YtggolnppckpdlaaGreatR30
import Derived.Test.YtggolnppckpdlaaGreatR37
import Derived.Test.YtggolnppckpdlaaGreatR49
import Derived.Test.YtggolnppckpdlaaGreatR50
set_option linter.unusedSimpArgs false
set_option linter.unusedVariables false
namespace Go.Proofs.YtggolnppckpdlaaGreat
open Go Go.Sk Go.RowKit
attribute [local irreducible] Go.Calls
theorem zO6 {F : zI} (s t : Vws) (p q : VPt) (w0 : World) (hF : Mem w0 F) (hs : VwM F s p) (ht : VwM F t q) :
  Calls Tryz.prog 27 [.agg (s.cells p).toArray, .agg (t.cells q).toArray].toArray w0 (Ret (.bool (zAw s t)) w0) := by
 have hq : zAw s t = (zAw s.opn t.opn && zAw s.lots t.lots && zAw s.poss t.poss && zAw s.lins t.lins) := by
  rw [Bool.eq_iff_iff, zn]
  cases s; cases t
  simp only [Bool.and_eq_true, beq_iff_eq, zn, Vws.mk.injEq, and_assoc]
 rw [hq]
 refine enter [.tmp 4] Tryz.func27 rfl Tryz.ntmps27 rfl rfl ?_
 have H := zH w0
 repeat' (first | refine y1 sg ?_ | refine y3 ?_ | refine y5 sg ?_ | refine y7 sg H ?_ | (refine y9 H ?_; intro b w H) | (refine' y30 ent73 ?_ ?_; rotate_left; exact zKb s.opn t.opn _ (H.memF hF) hs.op ht.op; intro w hcl; replace H := H.ext hcl; clear hcl) | (refine' y30 ent74 ?_ ?_; rotate_left; exact zKc s.lots t.lots _ (H.memF hF) hs.lt ht.lt; intro w hcl; replace H := H.ext hcl; clear hcl) | (refine' y30 ent75 ?_ ?_; rotate_left; exact zKd s.poss t.poss _ (H.memF hF) hs.ps ht.ps; intro w hcl; replace H := H.ext hcl; clear hcl) | (refine' y30 ent76 ?_ ?_; rotate_left; exact zKe s.lins t.lins _ (H.memF hF) hs.ln ht.ln; intro w hcl; replace H := H.ext hcl; clear hcl) | refine y13 ?_ | refine y14 ?_ | (refine y17 ?_ ?_; all_goals intro h) | (with_reducible first | apply zB | apply zD | apply zC | apply zF) | refine zA ?_ | fail)
 all_goals exact zQ rfl H.cl (congrArg Value.bool (by simp only [*, Bool.true_and, Bool.and_true, Bool.false_and, Bool.and_false]))
set_option maxHeartbeats 8000000 in
theorem zMZ {F : zI} (s t : Sta) (p q : SPt) (w0 : World) (hF : Mem w0 F) (hs : StaM F s p) (ht : StaM F t q) :
  Calls Tryz.prog 26 [.agg (s.cells p).toArray, .agg (t.cells q).toArray].toArray w0 (Ret (.bool (zAw s t)) w0) := by
 have nope : ∀ {x : Prop}, (s = t → x) → ¬ x → zAw s t = false := fun h hn => zAl fun e => hn (h e)
 have CR := fun w hM => zKZ (F := F) s.rows t.rows w hM hs.rw ht.rw
 have CO := fun w hM => zKa (F := F) s.orders t.orders w hM hs.od ht.od
 obtain ⟨r1, hr1⟩ : ∃ r, zAw s.rows t.rows = r := ⟨_, rfl⟩
 obtain ⟨r2, hr2⟩ : ∃ r, zAw s.orders t.orders = r := ⟨_, rfl⟩
 rw [hr1] at CR
 rw [hr2] at CO
 have hr1' : r1 = true ↔ s.rows = t.rows := by rw [← hr1, zn]
 have hr2' : r2 = true ↔ s.orders = t.orders := by rw [← hr2, zn]
 obtain ⟨ha, hi, _, _, hu⟩ := hs
 obtain ⟨ha', hi', _, _, hu'⟩ := ht
 obtain ⟨hna, hca, ba, offa, csa, Ta, fra, ha⟩ := ha
 obtain ⟨hni, hci, bi, offi, csi, Ti, fri, hi⟩ := hi
 obtain ⟨⟨hnu, hcu, bu, offu, csu, Tu, fru, hu⟩, hub⟩ := hu
 obtain ⟨hna', hca', ba', offa', csa', Ta', fra', ha'⟩ := ha'
 obtain ⟨hni', hci', bi', offi', csi', Ti', fri', hi'⟩ := hi'
 obtain ⟨⟨hnu', hcu', bu', offu', csu', Tu', fru', hu'⟩, hub'⟩ := hu'
 by_cases hh : s.clock = t.clock ∧ s.fee = t.fee ∧ s.nextO = t.nextO ∧ s.nextA = t.nextA ∧ s.accts.length = t.accts.length ∧ s.insts.length = t.insts.length ∧ s.aucs.length = t.aucs.length ∧ s.rows = t.rows ∧ s.orders = t.orders
 ·obtain ⟨e1, e2, e3, e4, e5, e6, e7, e8, e9⟩ := hh
  have d1 : (s.clock != t.clock) = false := by simp [e1]
  have d2 : (s.fee != t.fee) = false := by simp [e2]
  have d3 : (s.nextO != t.nextO) = false := by simp [e3]
  have d4 : (s.nextA != t.nextA) = false := by simp [e4]
  have d5 : ((s.accts.length : Int) != (t.accts.length : Int)) = false := by simp [e5]
  have d6 : ((s.insts.length : Int) != (t.insts.length : Int)) = false := by simp [e6]
  have d7 : ((s.aucs.length : Int) != (t.aucs.length : Int)) = false := by simp [e7]
  obtain rfl := hr1'.2 e8
  obtain rfl := hr2'.2 e9
  have fin : s.accts = t.accts → s.insts = t.insts → s.aucs = t.aucs → zAw s t = true := fun h1 h2 h3 => zn.2 (by cases s; cases t; simp_all)
  have na : s.accts ≠ t.accts → zAw s t = false := fun h => zAl fun e => h (by rw [e])
  have ni : s.insts ≠ t.insts → zAw s t = false := fun h => zAl fun e => h (by rw [e])
  have nu : s.aucs ≠ t.aucs → zAw s t = false := fun h => zAl fun e => h (by rw [e])
  refine enter [.tmp 4] Tryz.func26 rfl Tryz.ntmps26 rfl rfl ?_
  have H := zH w0
  repeat' (first | refine y1 sg ?_ | refine y3 ?_ | refine y5 sg ?_ | refine y7 sg H ?_ | (refine y9 H ?_; intro b w H) | (refine' y30 ent70 ?_ ?_; rotate_left; exact CR _ (H.memF hF); intro w hcl; replace H := H.ext hcl; clear hcl) | (refine' y30 ent71 ?_ ?_; rotate_left; exact CO _ (H.memF hF); intro w hcl; replace H := H.ext hcl; clear hcl) | refine y13 ?_ | (refine y17 ?_ ?_; all_goals (intro h; try (exfalso; first | ((rw [d1] at h; cases h); done) | ((rw [d2] at h; cases h); done) | ((rw [d3] at h; cases h); done) | ((rw [d4] at h; cases h); done) | ((rw [d5] at h; cases h); done) | ((rw [d6] at h; cases h); done) | ((rw [d7] at h; cases h); done)))) | (with_reducible first | apply zB | apply zD | apply zC | apply zE | apply zG) | refine zA ?_ | refine y22 ?_ | fail)
  all_goals
   clear d1 d2 d3 d4 d5 d6 d7 CR CO
   refine zK [(4, 5), (77, 94)] (fun k : Nat => [(5, .int .i64 (k : Int))]) (fun k w => St w0 [cb _ (t.cells q) 29, cb _ (s.cells p) 29] w ∧ k ≤ s.accts.length ∧ (∀ j, j < k → s.accts.getD j default = t.accts.getD j default)) (fun k => s.accts.length - k) 0 ⟨rfl, trivial⟩ ⟨H, Nat.zero_le _, fun j hj => absurd hj (Nat.not_lt_zero j)⟩ ?_
   clear H
   rintro k gh w ⟨H, hk, hpk⟩
   by_cases hlt : k < s.accts.length
   ·have d1 : decide ((k : Int) < (s.accts.length : Int)) = true := decide_eq_true (by omega)
    repeat' (first | refine y1 sg ?_ | refine y3 ?_ | refine y7 sg H ?_ | (with_reducible first | apply zB | apply zD | apply zC) | refine zA ?_ | fail)
    refine zM rfl (fun h => ?_) (fun h => absurd d1 (by rw [h]; decide))
    clear h
    repeat' (first | refine y2 sg ?_ | refine y4 ?_ | refine y8 sg H ?_ | (refine y41 sg (ha) ?_ ?_ ?_; (omega); (omega)) | (refine y41 sg (ha') ?_ ?_ ?_; (omega); (omega)) | (refine y43 sg (ha) ((H.memF hF)) ?_ ?_; (omega)) | (refine y43 sg (ha') ((H.memF hF)) ?_ ?_; (omega)) | (refine zo rfl rfl (zAx sg (cs := (ac_ s.accts k).cells) (ds := (ac_ t.accts k).cells) zOT zOU rfl rfl rfl rfl rfl rfl rfl) ?_) | (with_reducible apply zV; intro w hcl; replace H := H.ext hcl; clear hcl) | (with_reducible first | apply zD | apply zC | apply zE | apply zG) | refine y20 mixed ?_ | fail)
    refine zM rfl (fun h2 => ?_) (fun h2 => ?_)
    ·rw [Bool.not_eq_true'] at h2
     have hne := zDg (zFe (ac_ s.accts k) (ac_ t.accts k)) (by intro h3; exact absurd (h2.symm.trans h3) (by simp))
     repeat' (first | refine y1 sg ?_ | (with_reducible first | apply zB | apply zD | apply zC | apply zF | apply zO | apply zW) | refine zA ?_ | fail)
     exact zQ rfl H.cl (congrArg Value.bool (na fun he => hne (by unfold ac_; rw [he])).symm)
    ·rw [Bool.not_eq_false'] at h2
     have heq : ac_ s.accts k = ac_ t.accts k := (zFe _ _).1 h2
     repeat' (first | refine y1 sg ?_ | (with_reducible first | apply zB | apply zD | apply zG) | refine zA ?_ | fail)
     refine zJ (k + 1) rfl ⟨zT (by omega), trivial⟩ ⟨H, hlt, fun j hj => ?_⟩ (by omega)
     by_cases hj' : j = k
     ·rw [hj']; exact heq
     ·exact hpk j (by omega)
   obtain rfl : k = s.accts.length := by omega
   have d1 : decide ((s.accts.length : Int) < (s.accts.length : Int)) = false := decide_eq_false (by omega)
   have qaccts : s.accts = t.accts := zAs e5 hpk
   clear hpk hk hlt
   repeat' (first | refine y1 sg ?_ | refine y3 ?_ | refine y7 sg H ?_ | (with_reducible first | apply zB | apply zD | apply zC) | refine zA ?_ | fail)
   refine zM rfl (fun h => absurd d1 (by rw [h]; decide)) (fun h => ?_)
   clear h d1
   repeat' (first | refine y1 sg ?_ | (with_reducible first | apply zB | apply zD | apply zC | apply zE | apply zL | apply zS) | refine zA ?_ | refine y24 ?_ | fail)
   refine zK [(4, 4), (6, 6), (95, 112)] (fun k : Nat => [(6, .int .i64 (k : Int))]) (fun k w => St w0 [cb _ (t.cells q) 29, cb _ (s.cells p) 29] w ∧ k ≤ s.insts.length ∧ (∀ j, j < k → s.insts.getD j default = t.insts.getD j default)) (fun k => s.insts.length - k) 0 ⟨rfl, trivial⟩ ⟨H, Nat.zero_le _, fun j hj => absurd hj (Nat.not_lt_zero j)⟩ ?_
   clear H
   rintro k gh w ⟨H, hk, hpk⟩
   by_cases hlt : k < s.insts.length
   ·have d1 : decide ((k : Int) < (s.insts.length : Int)) = true := decide_eq_true (by omega)
    repeat' (first | refine y1 sg ?_ | refine y3 ?_ | refine y7 sg H ?_ | (with_reducible first | apply zB | apply zD | apply zC) | refine zA ?_ | fail)
    refine zM rfl (fun h => ?_) (fun h => absurd d1 (by rw [h]; decide))
    clear h
    repeat' (first | refine y2 sg ?_ | refine y4 ?_ | refine y8 sg H ?_ | (refine y41 sg (hi) ?_ ?_ ?_; (omega); (omega)) | (refine y41 sg (hi') ?_ ?_ ?_; (omega); (omega)) | (refine y43 sg (hi) ((H.memF hF)) ?_ ?_; (omega)) | (refine y43 sg (hi') ((H.memF hF)) ?_ ?_; (omega)) | (refine zo rfl rfl (zAx sg (cs := (in_ s.insts k).cells) (ds := (in_ t.insts k).cells) zOV zOW rfl rfl rfl rfl rfl rfl rfl) ?_) | (with_reducible apply zV; intro w hcl; replace H := H.ext hcl; clear hcl) | (with_reducible first | apply zD | apply zC | apply zE | apply zG) | refine y20 mixed ?_ | fail)
    refine zM rfl (fun h2 => ?_) (fun h2 => ?_)
    ·rw [Bool.not_eq_true'] at h2
     have hne := zDg (zFf (in_ s.insts k) (in_ t.insts k)) (by intro h3; exact absurd (h2.symm.trans h3) (by simp))
     repeat' (first | refine y1 sg ?_ | (with_reducible first | apply zB | apply zD | apply zC | apply zF | apply zO | apply zW) | refine zA ?_ | fail)
     exact zQ rfl H.cl (congrArg Value.bool (ni fun he => hne (by unfold in_; rw [he])).symm)
    ·rw [Bool.not_eq_false'] at h2
     have heq : in_ s.insts k = in_ t.insts k := (zFf _ _).1 h2
     repeat' (first | refine y1 sg ?_ | (with_reducible first | apply zB | apply zD | apply zG) | refine zA ?_ | fail)
     refine zJ (k + 1) rfl ⟨zT (by omega), trivial⟩ ⟨H, hlt, fun j hj => ?_⟩ (by omega)
     by_cases hj' : j = k
     ·rw [hj']; exact heq
     ·exact hpk j (by omega)
   obtain rfl : k = s.insts.length := by omega
   have d1 : decide ((s.insts.length : Int) < (s.insts.length : Int)) = false := decide_eq_false (by omega)
   have qinsts : s.insts = t.insts := zAs e6 hpk
   clear hpk hk hlt
   repeat' (first | refine y1 sg ?_ | refine y3 ?_ | refine y7 sg H ?_ | (with_reducible first | apply zB | apply zD | apply zC) | refine zA ?_ | fail)
   refine zM rfl (fun h => absurd d1 (by rw [h]; decide)) (fun h => ?_)
   clear h d1
   repeat' (first | refine y1 sg ?_ | (with_reducible first | apply zB | apply zD | apply zC | apply zE | apply zL | apply zS) | refine zA ?_ | refine y24 ?_ | fail)
   refine zK [(4, 4), (7, 7), (113, 131)] (fun k : Nat => [(7, .int .i64 (k : Int))]) (fun k w => St w0 [cb _ (t.cells q) 29, cb _ (s.cells p) 29] w ∧ k ≤ s.aucs.length ∧ (∀ j, j < k → s.aucs.getD j default = t.aucs.getD j default)) (fun k => s.aucs.length - k) 0 ⟨rfl, trivial⟩ ⟨H, Nat.zero_le _, fun j hj => absurd hj (Nat.not_lt_zero j)⟩ ?_
   clear H
   rintro k gh w ⟨H, hk, hpk⟩
   by_cases hlt : k < s.aucs.length
   ·have d1 : decide ((k : Int) < (s.aucs.length : Int)) = true := decide_eq_true (by omega)
    have CS := fun w hM => zQO (F := F) (s.aucs.getD k default) (t.aucs.getD k default) w hM (hub k hlt) (hub' k (by omega))
    obtain ⟨r, hr⟩ : ∃ r, zDV (s.aucs.getD k default) (t.aucs.getD k default) = r := ⟨_, rfl⟩
    have hr' : r = true ↔ s.aucs.getD k default = t.aucs.getD k default := by rw [← hr]; exact zE9 _ _
    rw [hr] at CS
    repeat' (first | refine y1 sg ?_ | refine y2 sg ?_ | refine y3 ?_ | refine y4 ?_ | refine y7 sg H ?_ | refine y8 sg H ?_ | (refine y41 sg (hu) ?_ ?_ ?_; (omega); (omega)) | (refine y41 sg (hu') ?_ ?_ ?_; (omega); (omega)) | (refine y43 sg (hu) ((H.memF hF)) ?_ ?_; (omega)) | (refine y43 sg (hu') ((H.memF hF)) ?_ ?_; (omega)) | (refine' y31 ent72 ?_ ?_; rotate_left; exact (fun _ hcl => CS _ ((H.ext hcl).memF hF))) | (with_reducible first | apply zB | apply zD | apply zC | apply zE | apply zF | apply zG | apply zO | apply zW) | (with_reducible apply zV; intro w hcl; replace H := H.ext hcl; clear hcl) | refine zA ?_ | refine y20 mixed ?_ | (refine y23 ?_ ?_; all_goals (intro h; try (exfalso; first | ((rw [d1] at h; cases h); done)))) | fail)
    all_goals first
     | exact zQ rfl H.cl (congrArg Value.bool (nu fun he => by
       have : r = true := hr'.2 (by rw [he])
       simp [this] at h).symm)
     | exact zJ (k + 1) rfl ⟨zT (by omega), trivial⟩ ⟨H, hlt, fun j hj => by
       by_cases hj' : j = k
       ·rw [hj']; exact hr'.1 (by simpa using h)
       ·exact hpk j (by omega)⟩ (by omega)
   obtain rfl : k = s.aucs.length := by omega
   have d1 : decide ((s.aucs.length : Int) < (s.aucs.length : Int)) = false := decide_eq_false (by omega)
   repeat' (first | refine y1 sg ?_ | refine y3 ?_ | refine y7 sg H ?_ | (with_reducible first | apply zB | apply zD | apply zC | apply zF | apply zL | apply zS) | refine zA ?_ | refine y24 ?_ | (refine y23 ?_ ?_; all_goals (intro h; try (exfalso; first | ((rw [d1] at h; cases h); done)))) | fail)
   exact zQ rfl H.cl (congrArg Value.bool (fin qaccts qinsts (zAs e7 hpk)).symm)
 ·have hno : zAw s t = false := zAl fun e => hh (by rw [e]; simp)
  rw [hno]
  have hbad : ¬ (s.clock = t.clock ∧ s.fee = t.fee ∧ s.nextO = t.nextO ∧ s.nextA = t.nextA ∧ s.accts.length = t.accts.length ∧ s.insts.length = t.insts.length ∧ s.aucs.length = t.aucs.length ∧ r1 = true ∧ r2 = true) := fun ⟨a, b, c, d, e, f, g, i, j⟩ => hh ⟨a, b, c, d, e, f, g, hr1'.1 i, hr2'.1 j⟩
  clear hh nope hr1' hr2' hr1 hr2
  refine enter [.tmp 4] Tryz.func26 rfl Tryz.ntmps26 rfl rfl ?_
  have H := zH w0
  repeat' (first | refine y1 sg ?_ | refine y3 ?_ | refine y5 sg ?_ | refine y7 sg H ?_ | (refine y9 H ?_; intro b w H) | (refine' y30 ent70 ?_ ?_; rotate_left; exact CR _ (H.memF hF); intro w hcl; replace H := H.ext hcl; clear hcl) | (refine' y30 ent71 ?_ ?_; rotate_left; exact CO _ (H.memF hF); intro w hcl; replace H := H.ext hcl; clear hcl) | refine y13 ?_ | refine y14 ?_ | (refine y17 ?_ ?_; all_goals intro h) | (with_reducible first | apply zB | apply zD | apply zC | apply zE | apply zF | apply zG | apply zO) | refine zA ?_ | refine y21 ?_ | (refine y23 ?_ ?_; all_goals intro h) | fail)
  all_goals first
   | exact zQ rfl H.cl rfl
   | (exfalso
      have k1 : s.clock = t.clock := by simpa using ‹(s.clock != t.clock) = false›
      have k2 : s.fee = t.fee := by simpa using ‹(s.fee != t.fee) = false›
      have k3 : s.nextO = t.nextO := by simpa using ‹(s.nextO != t.nextO) = false›
      have k4 : s.nextA = t.nextA := by simpa using ‹(s.nextA != t.nextA) = false›
      have k5 : s.accts.length = t.accts.length := by
       have := ‹((s.accts.length : Int) != (t.accts.length : Int)) = false›
       simp at this; omega
      have k6 : s.insts.length = t.insts.length := by
       have := ‹((s.insts.length : Int) != (t.insts.length : Int)) = false›
       simp at this; omega
      have k7 : s.aucs.length = t.aucs.length := by
       have := ‹((s.aucs.length : Int) != (t.aucs.length : Int)) = false›
       simp at this; omega
      have k8 : r1 = true := by simpa using ‹(!r1) = false›
      have k9 : r2 = true := by simpa using h
      exact hbad ⟨k1, k2, k3, k4, k5, k6, k7, k8, k9⟩)
   | trace_state
end Go.Proofs.YtggolnppckpdlaaGreat
set_option linter.unusedSimpArgs false
set_option linter.unusedVariables false
namespace Go.Proofs.YtggolnppckpdlaaGreat
open Go Go.Sk Go.RowKit
attribute [local irreducible] Go.Calls
theorem ReadA.uniq {B : List Nat} {x x' : Sta} {y y' : Vws} {e e' : Int} (h : ReadA B x y e) (h' : ReadA B x' y' e') : x = x' ∧ y = y' ∧ e = e' := by
 rcases h with ⟨rfl, l, r⟩ | ⟨rfl, l, rfl, rfl, r⟩ | ⟨rfl, l, rfl, rfl⟩ <;> rcases h' with ⟨rfl, l', r'⟩ | ⟨rfl, l', rfl, rfl, r'⟩ | ⟨rfl, l', rfl, rfl⟩
 ·obtain ⟨h1, h2⟩ := r.uniq r'; exact ⟨h1, h2, rfl⟩
 ·exact absurd r (r' _ _)
 ·omega
 ·exact absurd r' (r _ _)
 ·exact ⟨rfl, rfl, rfl⟩
 ·omega
 ·omega
 ·omega
 ·exact ⟨rfl, rfl, rfl⟩
theorem HdOk.injq {T : List Nat} {q q' : Nat} {b b' : List Nat} (h : HdOk T q b) (h' : HdOk T q' b') : q = q' := by
 have e := h.2.symm.trans h'.2
 unfold zBu at e
 obtain ⟨_, e1⟩ := List.append_inj e rfl
 obtain ⟨e2, _⟩ := List.append_inj e1 rfl
 have e3 : beV (beK 8 q) = beV (beK 8 q') := congrArg beV e2
 have h1 := h.1
 have h2 := h'.1
 rwa [zGr (by omega), zGr (by omega)] at e3
theorem OpenA.uniq {B : List Nat} {n n' : Int} {x x' : Sta} {y y' : Vws} {e e' : Int} (h : OpenA B n x y e) (h' : OpenA B n' x' y' e') : n = n' ∧ x = x' ∧ y = y' ∧ e = e' := by
 rcases h with ⟨rfl, l, q, b, rfl, h1, h2, h3, h4⟩ | ⟨rfl, rfl, rfl, ⟨rfl, l⟩ | ⟨h1, l, h2⟩ | ⟨rfl, l, h2, h3⟩⟩ <;> rcases h' with ⟨rfl, l', q', b', rfl, h1', h2', h3', h4'⟩ | ⟨rfl, rfl, rfl, ⟨rfl, l'⟩ | ⟨h1', l', h2'⟩ | ⟨rfl, l', h2', h3'⟩⟩
 all_goals first
  | exact ⟨rfl, rfl, rfl, rfl⟩
  | (exfalso; omega)
  | exact ⟨rfl, rfl, rfl, by omega⟩
  | exact absurd h4 (h3' _ _ _ _ h1)
  | exact absurd h4' (h3 _ _ _ _ h1')
  | (obtain rfl := h1.inj h1'; obtain rfl := h1.injq h1'; obtain ⟨e1, e2⟩ := h4.uniq h4'; exact ⟨rfl, e1, e2, rfl⟩)
theorem zJC {B : List Nat} (hB : B.length ≤ 5000) {q : Nat} {b : List Nat} (h : HdOk (zAe B).1 q b) : b.length ≤ 10000 := by
 have h1 := zE8 B
 rw [h.2, zE7] at h1
 omega
theorem sub4 {a b c d : Nat × Obj} (M : zI) : [a, b, c, d].Sublist (a :: b :: c :: d :: M) := ((((List.nil_sublist M).cons_cons d).cons_cons c).cons_cons b).cons_cons a
set_option maxRecDepth 20000 in
set_option maxHeartbeats 16000000 in
theorem zQ6 (s : ByteArray) (w0 : World) :
  Calls Tryz.prog 5 [.string s].toArray w0 (Ret (.bool true) w0) := by
 have hlen := zP s
 by_cases hbig : s.size > 5000
 ·have hd : decide ((s.size : Int) > 5000) = true := decide_eq_true (by omega)
  refine enter [.tmp 2] Tryz.func5 rfl Tryz.ntmps5 rfl rfl ?_
  have H := zH w0
  repeat' (first | refine y1 sg ?_ | refine y3 ?_ | (refine' y30 ent8 ?_ ?_; rotate_left; exact zLU _; intro w hcl; replace H := H.ext hcl; clear hcl) | (with_reducible first | apply zB | apply zD | apply zC | apply zF | apply zO) | refine zA ?_ | (refine y23 ?_ ?_; all_goals (intro h; try (exfalso; first | ((rw [hd] at h; cases h); done)))) | fail)
  exact zQ rfl H.cl rfl
 ·have hd : decide ((s.size : Int) > 5000) = false := decide_eq_false (by omega)
  have CR := fun w => zHu s (by omega) (RdW.short (by omega)) w
  have CX := fun w => zLb s (by omega) (RdWR.short (by omega)) w
  have CO := fun w => zIv s (by omega) (fun q b h _ => RdW.short (zJC (by omega) h)) w
  have CY := fun w => zQ4 s (by omega) (fun q b h _ => RdWR.short (zJC (by omega) h)) w
  have SS : ∀ {F G : zI} {x : Sta} {p q : SPt} (w : World), Mem w (F ++ G) → StaM F x p → StaM G x q → Calls Tryz.prog 26 [.agg (x.cells p).toArray, .agg (x.cells q).toArray].toArray w (Ret (.bool true) w) := fun {F G x p q} w hM h1 h2 => by
   have := zMZ x x p q w hM (h1.mono (List.subset_append_left _ _)) (h2.mono (List.subset_append_right _ _))
   rw [zn.2 rfl] at this
   exact this
  have SV : ∀ {F G : zI} {x : Vws} {p q : VPt} (w : World), Mem w (F ++ G) → VwM F x p → VwM G x q → Calls Tryz.prog 27 [.agg (x.cells p).toArray, .agg (x.cells q).toArray].toArray w (Ret (.bool true) w) := fun {F G x p q} w hM h1 h2 => by
   have := zO6 x x p q w hM (h1.mono (List.subset_append_left _ _)) (h2.mono (List.subset_append_right _ _))
   rw [zn.2 rfl] at this
   exact this
  have hne : ∀ e : Int, (e != e) = false := fun e => by simp
  have hmA : ∀ {w : World} {a b c d : Nat × Obj} {M : zI}, Mem w (a :: b :: c :: d :: M) → Mem w M := fun h => h.sub (fun p hp => List.mem_cons_of_mem _ (List.mem_cons_of_mem _ (List.mem_cons_of_mem _ (List.mem_cons_of_mem _ hp))))
  refine enter [.tmp 2] Tryz.func5 rfl Tryz.ntmps5 rfl rfl ?_
  have H := zH w0
  repeat' (first | refine y1 sg ?_ | (with_reducible first | apply zB | apply zD | apply zC) | refine zA ?_ | fail)
  refine zM rfl (fun h => absurd h (by rw [hd]; decide)) (fun _ => ?_)
  repeat' (first | refine y1 sg ?_ | (with_reducible first | apply zB | apply zD | apply zC | apply zE | apply zG) | refine zA ?_ | fail)
  refine zK [(2, 11), (16, 88)] (fun k : Nat => [(3, .int .i64 (k : Int))]) (fun k w => St w0 [] w ∧ k ≤ 2) (fun k => 2 - k) 0 ⟨rfl, trivial⟩ ⟨H, Nat.zero_le _⟩ ?_
  clear H
  rintro k gh w ⟨H, hk⟩
  by_cases hlt : k < 2
  ·have d1 : decide ((k : Int) < 2) = true := decide_eq_true (by omega)
   repeat' (first | refine y1 sg ?_ | refine y3 ?_ | refine y5 sg ?_ | refine y7 sg H ?_ | (refine y10 sg H ?_; intro b w H) | (refine y11 sg H ?_; intro w H) | (refine' y32 zKo ?_ ?_; rotate_left; exact CR _; intro v Ms w hR hS; replace H := H.addR hS; clear hS; (try simp only [List.cons_append, List.nil_append] at H); obtain ⟨⟨x, pt, y, qt, e, rfl, hxm, hym, hra⟩, hz⟩ := hR) | (refine' y32 ent28 ?_ ?_; rotate_left; exact CX _; intro v Mt w hR hS; replace H := H.addR hS; clear hS; (try simp only [List.cons_append, List.nil_append] at H); obtain ⟨x', pt', y', qt', e', rfl, hxm', hym', hra'⟩ := hR; obtain ⟨rfl, rfl, rfl⟩ := hra.uniq hra') | (refine' y32 ent12 ?_ ?_; rotate_left; exact CO _; intro v Ms w hR hS; replace H := H.addR hS; clear hS; (try simp only [List.cons_append, List.nil_append] at H); obtain ⟨⟨n, x, pt, y, qt, e, rfl, hxm, hym, hra⟩, hz⟩ := hR) | (refine' y32 ent31 ?_ ?_; rotate_left; exact CY _; intro v Mt w hR hS; replace H := H.addR hS; clear hS; (try simp only [List.cons_append, List.nil_append] at H); obtain ⟨n', x', pt', y', qt', e', rfl, hxm', hym', hra'⟩ := hR; obtain ⟨rfl, rfl, rfl, rfl⟩ := hra.uniq hra') | (refine' y30 ent26 ?_ ?_; rotate_left; exact SS _ (hmA H.mem) hxm hxm'; intro w hcl; replace H := H.ext hcl; clear hcl) | (refine' y30 ent27 ?_ ?_; rotate_left; exact SV _ (hmA H.mem) hym hym'; intro w hcl; replace H := H.ext hcl; clear hcl) | (refine' y33 ent29 ?_ ?_; rotate_left 2; exact zQ5 _ _ hz hxm (H.perm (zAo _ _)); rintro v N w ⟨rfl, N1, rfl, hsp⟩ H; replace H := H.perm (zAo _ _).symm) | (refine' y33 ent30 ?_ ?_; rotate_left 2; exact zO5 _ _ hz hym hsp (H.perm (zAo _ _)); rintro v N w ⟨rfl, rfl⟩ H; replace H := H.sub (sub4 _); clear hsp) | refine y13 ?_ | (refine y17 ?_ ?_; all_goals (intro h; try (exfalso; first | ((rw [d1] at h; cases h); done) | ((rw [hne] at h; cases h); done)))) | (with_reducible first | apply zB | apply zD | apply zC | apply zE | apply zG) | refine zA ?_ | refine y22 ?_ | (refine y23 ?_ ?_; all_goals (intro h; try (exfalso; first | ((rw [d1] at h; cases h); done) | ((rw [hne] at h; cases h); done)))) | fail)
   all_goals first
    | exact zJ (k + 1) rfl ⟨zT (by omega), trivial⟩ ⟨H.sub (List.nil_sublist _), hlt⟩ (by omega)
    | trace_state
  ·have d1 : decide ((k : Int) < 2) = false := decide_eq_false (by omega)
   repeat' (first | refine y1 sg ?_ | refine y3 ?_ | (refine' y30 ent8 ?_ ?_; rotate_left; exact zLU _; intro w hcl; replace H := H.ext hcl; clear hcl) | (with_reducible first | apply zB | apply zD | apply zC | apply zF | apply zL | apply zS) | refine zA ?_ | refine y24 ?_ | (refine y23 ?_ ?_; all_goals (intro h; try (exfalso; first | ((rw [d1] at h; cases h); done)))) | fail)
   exact zQ rfl H.cl rfl
end Go.Proofs.YtggolnppckpdlaaGreat
