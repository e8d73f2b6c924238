/- Texts of ours, joined: the steps of the proof, or the claim's theorem. -/
import Derived.Test.YtggolnppckpdlaaGreatR09
set_option linter.unusedSimpArgs false
set_option linter.unusedVariables false
namespace Go.Proofs.YtggolnppckpdlaaGreat
open Go Go.Sk Go.RowKit
attribute [local irreducible] Go.Calls
theorem RowsP.zR_succ {l : List Row4} {a : Int} {n k : Nat} (h : RowsP l n) (hk : k < n) (h1 : (rw_ l k).asset = a) (h2 : (rw_ l k).acct = 0) : zR l a (k + 1) = (rw_ l k).free := by
 have := zF1 h hk h1 h2 (k := k + 1) (by omega)
 rw [if_pos (by omega)] at this
 exact this
theorem zPt {l : List Row4} {a : Int} {k : Nat} (h : ¬ ((rw_ l k).asset = a ∧ (rw_ l k).acct = 0)) : zR l a (k + 1) = zR l a k := by
 simp only [zR]; rw [if_neg h]; omega
theorem zPu {l : List Row4} {a : Int} {k : Nat} (h : ¬ ((rw_ l k).asset = a ∧ (rw_ l k).acct ≠ 0)) : pR l a (k + 1) = pR l a k := by
 simp only [pR]; rw [if_neg h]; omega
theorem pR_add {l : List Row4} {a : Int} {k : Nat} (h1 : (rw_ l k).asset = a) (h2 : (rw_ l k).acct ≠ 0) : pR l a (k + 1) = pR l a k + ((rw_ l k).free + (rw_ l k).held) := by
 simp only [pR]; rw [if_pos ⟨h1, h2⟩]
set_option maxRecDepth 20000 in
set_option maxHeartbeats 8000000 in
theorem zPv {a : Option Addr} {cap : Nat} (l : List Row4) (hw : ∀ j, j < l.length → (rw_ l j).wf) {F : zI} (w0 : World) (hF : Mem w0 F) (hs : zNa F a cap l) :
  Calls Tryz.prog 194 [.slice a l.length cap].toArray w0 (Ret (.bool (zBU l)) w0) := by
 obtain ⟨hnc, hcb, b0, off, cs, T, fr, hs⟩ := hs
 refine enter [.tmp 2] Tryz.func194 rfl Tryz.ntmps194 rfl rfl ?_
 have H := zH w0
 repeat' (first | refine y1 sg ?_ | (with_reducible first | apply zB | apply zD | apply zC | apply zE) | refine zA ?_ | fail)
 refine zK [(2, 4), (9, 108)] (fun k : Nat => [(3, .int .i64 (k : Int))]) (fun k w => k ≤ l.length ∧ RowsP l k ∧ St w0 [] w) (fun k => l.length - k) 0 ⟨rfl, trivial⟩ ⟨Nat.zero_le _, fun j hj => absurd hj (Nat.not_lt_zero _), H⟩ ?_
 clear H
 rintro k gh w ⟨hk, hP, H⟩
 repeat' (first | refine y1 sg ?_ | (with_reducible first | apply zB | apply zD | apply zC) | refine zA ?_ | fail)
 refine zM rfl (fun h => ?_) (fun h => ?_)
 ·have hlt : k < l.length := by have := of_decide_eq_true h; omega
  clear h
  obtain ⟨⟨hf1, hf2⟩, hd1, hd2⟩ := hw k hlt
  have hgi := zDA (rw_ l k).acct (rw_ l k).asset
  have hfacts : zBU l = true → zDU (rw_ l k) ∧ (k = 0 ∨ LtR (rw_ l (k - 1)) (rw_ l k)) ∧ zBW (rw_ l k).acct (rw_ l k).asset = true ∧ ((rw_ l k).acct = 0 → -72057594037927936 ≤ (rw_ l k).free) := fun q => by
   obtain ⟨g, o⟩ := (zBT.1 q).1 k hlt
   exact ⟨g, o, hgi.2 g.1, fun h0 => (zEy q hlt h0).1⟩
  rcases k with _ | j
  ·repeat' (first | refine y1 sg ?_ | refine y2 sg ?_ | refine y3 ?_ | refine y5 sg ?_ | refine y7 sg H ?_ | (refine y10 sg H ?_; intro b w H) | (refine y11 sg H ?_; intro w H) | (refine y40 sg (hs) ?_ ?_ ?_; (omega); (omega)) | (refine y42 sg (hs) ((H.memF hF)) ?_ ?_; (omega)) | (refine' y30 zM1 ?_ ?_; rotate_left; exact zIP (rw_ l 0).acct (rw_ l 0).asset _; intro w hcl; replace H := H.ext hcl; clear hcl) | refine y13 ?_ | refine y14 ?_ | refine y16 ?_ | (refine y17 ?_ ?_; all_goals intro h) | (with_reducible first | apply zB | apply zD | apply zC | apply zE | apply zF | apply zG | apply zO | apply zW) | (with_reducible apply zV; intro w hcl; replace H := H.ext hcl; clear hcl) | refine zA ?_ | refine y20 mixed ?_ | refine y21 ?_ | refine y22 ?_ | (refine y23 ?_ ?_; all_goals intro h) | fail)
   all_goals simp only [Bool.not_eq_true', Bool.not_eq_false', decide_eq_true_eq, decide_eq_false_iff_not, beq_iff_eq, beq_eq_false_iff_ne, bne_iff_ne, ne_eq, bne_eq_false_iff_eq] at *
   all_goals try exact zQ rfl H.cl (congrArg Value.bool (zEa fun q => by
    obtain ⟨g, f2, f3, f4⟩ := hfacts q
    first
     | (cases f3.symm.trans ‹zBW _ _ = false›)
     | (unfold LtR at f2; obtain ⟨g1, g2, g3, g4⟩ := g; omega)
     | (obtain ⟨g1, g2, g3, g4⟩ := g; rw [w64 (by omega) (by omega)] at h; omega)))
   all_goals
    have ht := hgi.1 ‹zBW _ _ = true›
    clear hfacts hgi
   all_goals try (exfalso; omega)
   all_goals try rw [w64 (by omega) (by omega)] at h
   all_goals exact zJ (0 + 1) rfl ⟨zT (by omega), trivial⟩ ⟨hlt, hP.succ ⟨ht, by omega, by omega, by omega⟩ (.inl rfl), H.sub (List.nil_sublist _)⟩ (by omega)
  ·have hpos : decide (((j + 1 : Nat) : Int) > 0) = true := decide_eq_true (by omega)
   repeat' (first | refine y1 sg ?_ | refine y2 sg ?_ | refine y3 ?_ | refine y5 sg ?_ | refine y6 sg ?_ | refine y7 sg H ?_ | refine y8 sg H ?_ | (refine y10 sg H ?_; intro b w H) | (refine y11 sg H ?_; intro w H) | (refine y40 sg (hs) ?_ ?_ ?_; (first | omega | (rw [w64 (by omega) (by omega)]; omega)); (first | omega | (rw [w64 (by omega) (by omega)]; omega))) | (refine y41 sg (hs) ?_ ?_ ?_; (first | omega | (rw [w64 (by omega) (by omega)]; omega)); (first | omega | (rw [w64 (by omega) (by omega)]; omega))) | (refine y42 sg (hs) ((H.memF hF)) ?_ ?_; (omega)) | (refine y45 sg (hs) ((H.memF hF)) ?_ ?_; (omega)) | (refine' y30 zM1 ?_ ?_; rotate_left; exact zIP (rw_ l (j + 1)).acct (rw_ l (j + 1)).asset _; intro w hcl; replace H := H.ext hcl; clear hcl) | refine y13 ?_ | refine y14 ?_ | refine y15 ?_ | refine y16 ?_ | (refine y17 ?_ ?_; all_goals (intro h; try (exfalso; first | ((rw [hpos] at h; cases h); done)))) | (refine y18 ?_ ?_; all_goals (intro h; try (exfalso; first | ((rw [hpos] at h; cases h); done)))) | (with_reducible first | apply zB | apply zD | apply zC | apply zE | apply zF | apply zG | apply zO | apply zW) | (with_reducible apply zV; intro w hcl; replace H := H.ext hcl; clear hcl) | refine zA ?_ | refine y20 mixed ?_ | refine y21 ?_ | refine y22 ?_ | (refine y23 ?_ ?_; all_goals (intro h; try (exfalso; first | ((rw [hpos] at h; cases h); done)))) | fail)
   all_goals clear hpos
   all_goals simp only [Bool.not_eq_true', Bool.not_eq_false', decide_eq_true_eq, decide_eq_false_iff_not, beq_iff_eq, beq_eq_false_iff_ne, bne_iff_ne, ne_eq, bne_eq_false_iff_eq] at *
   all_goals try exact zQ rfl H.cl (congrArg Value.bool (zEa fun q => by
    obtain ⟨g, f2, f3, f4⟩ := hfacts q
    first
     | (cases f3.symm.trans ‹zBW _ _ = false›)
     | (unfold LtR at f2; obtain ⟨g1, g2, g3, g4⟩ := g; omega)
     | (obtain ⟨g1, g2, g3, g4⟩ := g; rw [w64 (by omega) (by omega)] at h; omega)))
   all_goals
    have ht := hgi.1 ‹zBW _ _ = true›
    clear hfacts hgi
   all_goals try (exfalso; omega)
   all_goals try rw [w64 (by omega) (by omega)] at h
   all_goals exact zJ ((j + 1) + 1) rfl ⟨zT (by omega), trivial⟩ ⟨hlt, hP.succ ⟨ht, by omega, by omega, by omega⟩ (.inr (by unfold LtR; omega)), H.sub (List.nil_sublist _)⟩ (by omega)
 ·obtain rfl : k = l.length := by have := of_decide_eq_false h; omega
  clear h
  repeat' (first | refine y1 sg ?_ | (with_reducible first | apply zB | apply zD | apply zC | apply zE | apply zL | apply zS) | refine zA ?_ | refine y24 ?_ | fail)
  refine zK [(2, 2), (5, 8), (109, 170)] (fun x : Nat => [(5, .int .i64 (x : Int))]) (fun x w => x ≤ 17 ∧ (∀ j : Nat, j < x → smR l j l.length = 0) ∧ St w0 [] w) (fun x => 17 - x) 0 ⟨rfl, trivial⟩ ⟨Nat.zero_le _, fun j hj => absurd hj (Nat.not_lt_zero _), H⟩ ?_
  clear H
  rintro x gh2 w ⟨hx, hz, H⟩
  repeat' (first | refine y1 sg ?_ | (with_reducible first | apply zB | apply zD | apply zC) | refine zA ?_ | fail)
  refine zM rfl (fun h => ?_) (fun h => ?_)
  ·have hx17 : x < 17 := by have := of_decide_eq_true h; omega
   clear h
   repeat' (first | refine y1 sg ?_ | (with_reducible first | apply zB | apply zD | apply zC | apply zE | apply zG) | refine zA ?_ | fail)
   refine zK [(6, 8), (113, 166)] (fun i : Nat => [(6, .int .i64 (zR l x i)), (7, .int .i64 (pR l x i)), (8, .int .i64 (i : Int))]) (fun i w => i ≤ l.length ∧ St w0 [] w) (fun i => l.length - i) 0 ⟨rfl, rfl, rfl, trivial⟩ ⟨Nat.zero_le _, H⟩ ?_
   clear H
   rintro i gh3 w ⟨hi, H⟩
   repeat' (first | refine y1 sg ?_ | (with_reducible first | apply zB | apply zD | apply zC) | refine zA ?_ | fail)
   refine zM rfl (fun h => ?_) (fun h => ?_)
   ·have hil : i < l.length := by have := of_decide_eq_true h; omega
    clear h
    obtain ⟨m, m1, m2, m3, m4, _⟩ := zGx (a := x) (fun j hj => hP j (by omega) : RowsP l i)
    have hG := (hP i hil).1
    have z1 : (rw_ l i).asset = x → (rw_ l i).acct = 0 → zR l x (i + 1) = (rw_ l i).free := fun h1 h2 => hP.zR_succ hil h1 h2
    have z2 : ¬ ((rw_ l i).asset = x ∧ (rw_ l i).acct = 0) → zR l x (i + 1) = zR l x i := zPt
    have p1 : (rw_ l i).asset = x → (rw_ l i).acct ≠ 0 → pR l x (i + 1) = pR l x i + ((rw_ l i).free + (rw_ l i).held) := pR_add
    have p2 : ¬ ((rw_ l i).asset = x ∧ (rw_ l i).acct ≠ 0) → pR l x (i + 1) = pR l x i := zPu
    obtain ⟨g1, g2, g3, g4⟩ := hG
    repeat' (first | refine y1 sg ?_ | refine y2 sg ?_ | refine y3 ?_ | refine y4 ?_ | refine y5 sg ?_ | (refine y40 sg (hs) ?_ ?_ ?_; (omega); (omega)) | (refine y41 sg (hs) ?_ ?_ ?_; (omega); (omega)) | (refine y44 sg (hs) ((H.memF hF)) ?_ ?_; (omega)) | (refine y45 sg (hs) ((H.memF hF)) ?_ ?_; (omega)) | refine y13 ?_ | refine y14 ?_ | (refine y17 ?_ ?_; all_goals intro h) | (with_reducible first | apply zB | apply zD | apply zC | apply zE | apply zG) | (with_reducible apply zV; intro w hcl; replace H := H.ext hcl; clear hcl) | refine zA ?_ | refine y20 mixed ?_ | refine y22 ?_ | (refine y23 ?_ ?_; all_goals intro h) | fail)
    all_goals simp only [decide_eq_true_eq, decide_eq_false_iff_not, beq_iff_eq, beq_eq_false_iff_ne, ne_eq] at *
    all_goals try (exfalso; omega)
    all_goals
     refine zJ (i + 1) rfl ⟨?_, ?_, zT (by omega), trivial⟩ ⟨hil, H⟩ (by omega)
     ·first
       | (rw [z1 (by omega) (by omega)]; rfl)
       | (rw [z2 (by omega)]; rfl)
     ·first
       | (rw [p2 (by omega)]; rfl)
       | (rw [p1 (by omega) (by omega)]
          exact congrArg (Value.int .i64) (by rw [w64 (x := pR l x i + (rw_ l i).free) (by omega) (by omega), w64 (by omega) (by omega)]; omega))
   ·obtain rfl : i = l.length := by have := of_decide_eq_false h; omega
    clear h
    obtain ⟨m, m1, m2, m3, m4, _⟩ := zGx (a := x) hP
    have hsp := zCu (a := x) hP
    repeat' (first | refine y1 sg ?_ | (with_reducible first | apply zB | apply zD | apply zC | apply zL | apply zS) | refine zA ?_ | refine y24 ?_ | fail)
    rw [w64 (by omega) (by omega)]
    refine zM rfl (fun h => ?_) (fun h => ?_)
    ·repeat' (first | refine y1 sg ?_ | (with_reducible first | apply zB | apply zD | apply zC | apply zF | apply zO | apply zW) | refine zA ?_ | fail)
     have h : ¬ zR l x l.length = 0 - pR l x l.length := by simpa using h
     exact zQ rfl H.cl (congrArg Value.bool (zEa fun q => by
      have := (zBT.1 q).2 x hx17
      omega))
    ·have h : zR l x l.length = 0 - pR l x l.length := by simpa using h
     repeat' (first | refine y1 sg ?_ | (with_reducible first | apply zB | apply zD | apply zG) | refine zA ?_ | fail)
     refine zAY (x + 1) rfl ⟨zT (by omega), trivial⟩ ⟨hx17, fun j hj => ?_, H⟩ (by omega)
     rcases (show j < x ∨ j = x by omega) with g | rfl
     ·exact hz j g
     ·omega
  ·obtain rfl : x = 17 := by have := of_decide_eq_false h; omega
   repeat' (first | refine y1 sg ?_ | (with_reducible first | apply zB | apply zD | apply zC | apply zF | apply zL | apply zS) | refine zA ?_ | refine y24 ?_ | fail)
   exact zQ rfl H.cl (congrArg Value.bool (zBT.2 ⟨hP, hz⟩).symm)
end Go.Proofs.YtggolnppckpdlaaGreat
