/- Texts of ours, joined: the steps of the proof, or the claim's theorem. -/
import Derived.Test.YtggolnppckpdlaaGreatR22
set_option linter.unusedSimpArgs false
set_option linter.unusedVariables false
namespace Go.Proofs.YtggolnppckpdlaaGreat
open Go Go.Sk Go.RowKit
attribute [local irreducible] Go.Calls
def zHk (l : List Ins) (k : Nat) (n : Nat) : Bool := (List.range n).all fun j => !((in_ l j).name.toList == (in_ l k).name.toList)
def zN4 (l : List Ins) (k : Nat) : Bool := z6 (in_ l k).name && zX (in_ l k).tick 1 1073741824 && zHk l k k
def zBs (l : List Ins) : Bool := decide (l.length ≤ 16) && (List.range l.length).all fun k => zN4 l k
theorem zIg {l : List Ins} {k n : Nat} : zHk l k n = true ↔ ∀ j, j < n → ((in_ l j).name.toList == (in_ l k).name.toList) = false := by
 unfold zHk
 rw [List.all_eq_true]
 simp only [List.mem_range, Bool.not_eq_true']
theorem zCT {l : List Ins} : zBs l = true ↔ l.length ≤ 16 ∧ ∀ k, k < l.length → z6 (in_ l k).name = true ∧ (1 ≤ (in_ l k).tick ∧ (in_ l k).tick ≤ 1073741824) ∧ ∀ j, j < k → ((in_ l j).name.toList == (in_ l k).name.toList) = false := by
 unfold zBs zN4
 rw [Bool.and_eq_true, decide_eq_true_eq, List.all_eq_true]
 simp only [List.mem_range, Bool.and_eq_true, zAC, zIg, and_assoc]
set_option maxHeartbeats 2000000 in
theorem zGL {F : zI} (s : Sta) (p : SPt) (w0 : World) (hF : Mem w0 F) (hs0 : StaM F s p) :
  Calls Tryz.prog 148 [.agg (s.cells p).toArray].toArray w0 (Ret (.bool (zBs s.insts)) w0) := by
 obtain ⟨hnc, hcb, b0, off, cs, T, fr, hs⟩ := hs0.ins
 refine enter [.tmp 2] Tryz.func148 rfl Tryz.ntmps148 rfl rfl ?_
 have H := zH w0
 repeat' (first | refine y1 sg ?_ | refine y3 ?_ | (refine y9 H ?_; intro b w H) | (with_reducible first | apply zB | apply zD | apply zC | apply zE) | refine zA ?_ | fail)
 refine zK [(2, 45)] (fun k : Nat => [(3, .int .i64 (k : Int))]) (fun k w => k ≤ s.insts.length ∧ k ≤ 16 ∧ (∀ k', k' < k → z6 (in_ s.insts k').name = true ∧ (1 ≤ (in_ s.insts k').tick ∧ (in_ s.insts k').tick ≤ 1073741824) ∧ ∀ j, j < k' → ((in_ s.insts j).name.toList == (in_ s.insts k').name.toList) = false) ∧ St w0 [cb _ (s.cells p) 29] w) (fun k => s.insts.length - k) 0 ⟨rfl, trivial⟩ ⟨Nat.zero_le _, Nat.zero_le _, fun j hj => absurd hj (Nat.not_lt_zero _), H⟩ ?_
 clear H
 rintro k gh w ⟨hk, hk2, hn, H⟩
 repeat' (first | refine y1 sg ?_ | refine y3 ?_ | refine y7 sg H ?_ | (with_reducible first | apply zB | apply zD | apply zC) | refine zA ?_ | fail)
 refine zM rfl (fun h => ?_) (fun h => ?_)
 ·have hlt : k < s.insts.length := by have := of_decide_eq_true h; omega
  clear h
  have hfacts : zBs s.insts = true → k < 16 ∧ z6 (in_ s.insts k).name = true ∧ zX (in_ s.insts k).tick 1 1073741824 = true ∧ ∀ j, j < k → ((in_ s.insts j).name.toList == (in_ s.insts k).name.toList) = false := fun q => by
   obtain ⟨q1, q2⟩ := zCT.1 q
   exact ⟨by omega, (q2 k hlt).1, (zAC _ _ _).2 (q2 k hlt).2.1, (q2 k hlt).2.2⟩
  repeat' (first | refine y1 sg ?_ | refine y3 ?_ | refine y5 sg ?_ | refine y7 sg H ?_ | (refine y10 sg H ?_; intro b w H) | (refine y11 sg H ?_; intro w H) | (refine y40 sg (hs) ?_ ?_ ?_; (omega); (omega)) | (refine y42 sg (hs) ((H.memF hF)) ?_ ?_; (omega)) | (refine' y30 zMu ?_ ?_; rotate_left; exact zFy (in_ s.insts k).name _; intro w hcl; replace H := H.ext hcl; clear hcl) | (refine' y30 zFt ?_ ?_; rotate_left; exact zDY (in_ s.insts k).tick 1 1073741824 _; intro w hcl; replace H := H.ext hcl; clear hcl) | refine y13 ?_ | refine y14 ?_ | (refine y17 ?_ ?_; all_goals intro h) | (with_reducible first | apply zB | apply zD | apply zC | apply zE | apply zF | apply zG | apply zO | apply zW) | refine zA ?_ | refine y21 ?_ | (refine y23 ?_ ?_; all_goals intro h) | fail)
  all_goals simp only [Bool.not_eq_true', Bool.not_eq_false', decide_eq_true_eq, decide_eq_false_iff_not] at *
  all_goals try exact zQ rfl H.cl (congrArg Value.bool (noB fun q => by
    obtain ⟨q1, q2, q3, q4⟩ := hfacts q
    first | omega | (cases q2.symm.trans ‹z6 _ = false›) | (cases q3.symm.trans ‹zX _ _ _ = false›)))
  have hmn := ‹z6 (in_ s.insts k).name = true›
  have hrg := (zAC _ _ _).1 ‹zX (in_ s.insts k).tick 1 1073741824 = true›
  refine zK [(2, 2), (5, 5), (32, 45)] (fun j : Nat => [(5, .int .i64 (j : Int))]) (fun j w => j ≤ k ∧ (∀ i, i < j → ((in_ s.insts i).name.toList == (in_ s.insts k).name.toList) = false) ∧ St w0 [cb _ (in_ s.insts k).cells 72, cb _ (s.cells p) 29] w) (fun j => k - j) 0 ⟨rfl, trivial⟩ ⟨Nat.zero_le _, fun j hj => absurd hj (Nat.not_lt_zero _), H⟩ ?_
  clear H
  rintro j gh2 w ⟨hj, hjn, H⟩
  repeat' (first | refine y1 sg ?_ | (with_reducible first | apply zB | apply zD | apply zC) | refine zA ?_ | fail)
  refine zM rfl (fun h => ?_) (fun h => ?_)
  ·have hjk : j < k := by have := of_decide_eq_true h; omega
   clear h
   repeat' (first | refine y2 sg ?_ | refine y4 ?_ | refine y8 sg H ?_ | (refine y41 sg (hs) ?_ ?_ ?_; (omega); (omega)) | (refine y45 sg (hs) ((H.memF hF)) ?_ ?_; (omega)) | (with_reducible apply zV; intro w hcl; replace H := H.ext hcl; clear hcl) | (with_reducible first | apply zD | apply zC | apply zE | apply zG) | refine y20 mixed ?_ | fail)
   refine zM rfl (fun h2 => ?_) (fun h2 => ?_)
   ·repeat' (first | refine y1 sg ?_ | (with_reducible first | apply zB | apply zD | apply zC | apply zF | apply zO | apply zW) | refine zA ?_ | fail)
    exact zQ rfl H.cl (congrArg Value.bool (noB fun q => by
     have := (hfacts q).2.2.2 j hjk
     cases this.symm.trans h2))
   ·repeat' (first | refine y1 sg ?_ | (with_reducible first | apply zB | apply zD | apply zG) | refine zA ?_ | fail)
    refine zJ (j + 1) rfl ⟨zT (by omega), trivial⟩ ⟨hjk, fun i hi => ?_, H⟩ (by omega)
    rcases (show i < j ∨ i = j by omega) with g | rfl
    ·exact hjn i g
    ·exact h2
  ·obtain rfl : j = k := by have := of_decide_eq_false h; omega
   clear h
   repeat' (first | refine y1 sg ?_ | (with_reducible first | apply zB | apply zD | apply zL) | refine zA ?_ | fail)
   refine zAY (j + 1) rfl ⟨zT (by omega), trivial⟩ ⟨hlt, by omega, fun i hi => ?_, H.sub (List.sublist_cons_self _ _)⟩ (by omega)
   rcases (show i < j ∨ i = j by omega) with g | rfl
   ·exact hn i g
   ·exact ⟨hmn, hrg, hjn⟩
 ·obtain rfl : k = s.insts.length := by have := of_decide_eq_false h; omega
  repeat' (first | refine y1 sg ?_ | (with_reducible first | apply zB | apply zD | apply zC | apply zF | apply zL | apply zS) | refine zA ?_ | refine y24 ?_ | fail)
  exact zQ rfl H.cl (congrArg Value.bool (zCT.2 ⟨hk2, hn⟩).symm)
def zCd (s : Sta) (k : Nat) : Bool := (decide ((rw_ s.rows k).acct ≤ 0) || (zAd s.accts (rw_ s.rows k).acct).2) && decide ((rw_ s.rows k).asset ≤ s.insts.length)
def zCE (s : Sta) : Bool := zBU s.rows && (List.range s.rows.length).all fun k => zCd s k
theorem zCU {s : Sta} : zCE s = true ↔ zBU s.rows = true ∧ ∀ k, k < s.rows.length → zCd s k = true := by
 unfold zCE
 rw [Bool.and_eq_true, List.all_eq_true]
 simp only [List.mem_range]
theorem zIh {s : Sta} {k : Nat} : zCd s k = true ↔ ((rw_ s.rows k).acct ≤ 0 ∨ (zAd s.accts (rw_ s.rows k).acct).2 = true) ∧ (rw_ s.rows k).asset ≤ s.insts.length := by
 unfold zCd
 rw [Bool.and_eq_true, Bool.or_eq_true, decide_eq_true_eq, decide_eq_true_eq]
set_option maxHeartbeats 2000000 in
theorem zPw {F : zI} (s : Sta) (p : SPt) (hw : ∀ j, j < s.rows.length → (rw_ s.rows j).wf) (w0 : World) (hF : Mem w0 F) (hs0 : StaM F s p) :
  Calls Tryz.prog 149 [.agg (s.cells p).toArray].toArray w0 (Ret (.bool (zCE s)) w0) := by
 obtain ⟨hnc, hcb, b0, off, cs, T, fr, hs⟩ := id hs0.rw
 refine enter [.tmp 2] Tryz.func149 rfl Tryz.ntmps149 rfl rfl ?_
 have H := zH w0
 repeat' (first | refine y1 sg ?_ | refine y3 ?_ | refine y7 sg H ?_ | (refine y9 H ?_; intro b w H) | (refine' y30 ent194 ?_ ?_; rotate_left; exact zPv s.rows hw _ (H.memF hF) hs0.rw; intro w hcl; replace H := H.ext hcl; clear hcl) | (with_reducible first | apply zB | apply zD | apply zC) | refine zA ?_ | fail)
 refine zM rfl (fun h => ?_) (fun h => ?_)
 ·repeat' (first | refine y1 sg ?_ | (with_reducible first | apply zB | apply zD | apply zC | apply zF | apply zO) | refine zA ?_ | fail)
  exact zQ rfl H.cl (congrArg Value.bool (noB fun q => by
   have := (zCU.1 q).1
   rw [this] at h; cases h))
 have hR : zBU s.rows = true := by simpa using h
 clear h
 repeat' (first | refine y1 sg ?_ | (with_reducible first | apply zB | apply zD | apply zC | apply zE | apply zG) | refine zA ?_ | fail)
 refine zK [(2, 5), (10, 50)] (fun k : Nat => [(3, .int .i64 (k : Int))]) (fun k w => k ≤ s.rows.length ∧ (∀ j, j < k → zCd s j = true) ∧ St w0 [cb _ (s.cells p) 29] w) (fun k => s.rows.length - k) 0 ⟨rfl, trivial⟩ ⟨Nat.zero_le _, fun j hj => absurd hj (Nat.not_lt_zero _), H⟩ ?_
 clear H
 rintro k gh w ⟨hk, hn, H⟩
 repeat' (first | refine y1 sg ?_ | refine y3 ?_ | refine y7 sg H ?_ | (with_reducible first | apply zB | apply zD | apply zC) | refine zA ?_ | fail)
 refine zM rfl (fun h => ?_) (fun h => ?_)
 ·have hlt : k < s.rows.length := by have := of_decide_eq_true h; omega
  clear h
  have hro := zIh (s := s) (k := k)
  obtain ⟨ac, ok, hac⟩ : ∃ ac ok, zAd s.accts (rw_ s.rows k).acct = (ac, ok) := ⟨_, _, rfl⟩
  rw [hac] at hro
  have acct : ∀ {w : World}, Mem w F → Calls Tryz.prog 195 [.agg (s.cells p).toArray, .int .i64 (rw_ s.rows k).acct].toArray w (Ret (.tuple #[.agg ac.cells.toArray, .bool ok]) w) := fun hF => by
   have := zFa s p (rw_ s.rows k).acct _ hF hs0
   rw [hac] at this
   exact this
  repeat' (first | (with_reducible first | apply zD | apply zC | apply zE | apply zG) | fail)
  refine CW.mid [(4, 5), (17, 27)] (fun x : Nat => [(4, .pointer (some ⟨x, 0, none⟩)), (5, .bool ok)]) (fun x w => St w0 [cb x ac.cells 70, cb b (s.cells p) 29] w) (fun g => ?_) ?_
  ·repeat' (first | refine y3 ?_ | refine y7 sg H ?_ | (refine y10 sg H ?_; intro b w H) | (refine y11 sg H ?_; intro w H) | (refine zw mixed 14 ?_ ?_; exact rfl; intro w hcl; replace H := H.ext hcl; clear hcl) | ((with_reducible apply zBD); decide +kernel) | (refine' z8 1 ?_ ?_; rotate_left; first | exact z9 sg | exact (fun w => zAK sg hs rfl rfl rfl rfl rfl rfl rfl (by first | with_reducible exact Int.toNat_natCast _ | exact zAB (by omega) (by omega) | with_reducible exact zAq | exact zAA _) (by omega) (by omega))) | (refine' z8 3 ?_ ?_; rotate_left; first | exact z9 sg | exact (fun w => zAK sg hs rfl rfl rfl rfl rfl rfl rfl (by first | with_reducible exact Int.toNat_natCast _ | exact zAB (by omega) (by omega) | with_reducible exact zAq | exact zAA _) (by omega) (by omega))) | (refine' z8 4 ?_ ?_; rotate_left; first | exact z9 sg | exact (fun w => zAK sg hs rfl rfl rfl rfl rfl rfl rfl (by first | with_reducible exact Int.toNat_natCast _ | exact zAB (by omega) (by omega) | with_reducible exact zAq | exact zAA _) (by omega) (by omega))) | (refine' z8 5 ?_ ?_; rotate_left; first | exact z9 sg | exact (fun w => zAK sg hs rfl rfl rfl rfl rfl rfl rfl (by first | with_reducible exact Int.toNat_natCast _ | exact zAB (by omega) (by omega) | with_reducible exact zAq | exact zAA _) (by omega) (by omega))) | (refine' z8 8 ?_ ?_; rotate_left; first | exact z9 sg | exact (fun w => zAK sg hs rfl rfl rfl rfl rfl rfl rfl (by first | with_reducible exact Int.toNat_natCast _ | exact zAB (by omega) (by omega) | with_reducible exact zAq | exact zAA _) (by omega) (by omega))) | (refine' z8 9 ?_ ?_; rotate_left; first | exact z9 sg | exact (fun w => zAK sg hs rfl rfl rfl rfl rfl rfl rfl (by first | with_reducible exact Int.toNat_natCast _ | exact zAB (by omega) (by omega) | with_reducible exact zAq | exact zAA _) (by omega) (by omega))) | (refine' z8 10 ?_ ?_; rotate_left; first | exact z9 sg | exact (fun w => zAK sg hs rfl rfl rfl rfl rfl rfl rfl (by first | with_reducible exact Int.toNat_natCast _ | exact zAB (by omega) (by omega) | with_reducible exact zAq | exact zAA _) (by omega) (by omega))) | (refine' z8 13 ?_ ?_; rotate_left; first | exact z9 sg | exact (fun w => zAK sg hs rfl rfl rfl rfl rfl rfl rfl (by first | with_reducible exact Int.toNat_natCast _ | exact zAB (by omega) (by omega) | with_reducible exact zAq | exact zAA _) (by omega) (by omega))) | refine z10 0 ?_ | refine z10 2 ?_ | refine z10 6 ?_ | refine z10 7 ?_ | refine z10 11 ?_ | refine z10 12 ?_ | refine z11 0 2 ?_ ?_ | refine z11 0 11 ?_ ?_ | refine z11 2 11 ?_ ?_ | refine z11 0 6 ?_ ?_ | refine z11 6 11 ?_ ?_ | refine z11 7 11 ?_ ?_ | ((with_reducible apply RA.c3 0 2 11); exact rfl; decide +kernel; exact rfl; exact rfl; exact rfl) | ((with_reducible apply RA.c3 0 6 11); exact rfl; decide +kernel; exact rfl; exact rfl; exact rfl) | (refine y44 sg (hs) ((H.memF hF)) ?_ ?_; (omega)) | (refine' y30 zHT ?_ ?_; rotate_left; exact acct (H.memF hF); intro w hcl; replace H := H.ext hcl; clear hcl) | (with_reducible first | apply zB | apply zD) | fail)
   all_goals exact zJ _ rfl ⟨rfl, rfl, trivial⟩ H (Nat.lt_succ_self 0)
  clear H acct
  rintro x g w H
  try simp only at H ⊢
  repeat' (first | refine y1 sg ?_ | refine y2 sg ?_ | refine y4 ?_ | refine y6 sg ?_ | refine y8 sg H ?_ | (refine y41 sg (hs) ?_ ?_ ?_; (omega); (omega)) | (refine y45 sg (hs) ((H.memF hF)) ?_ ?_; (omega)) | refine y15 ?_ | refine y16 ?_ | (refine y18 ?_ ?_; all_goals intro h) | (with_reducible first | apply zB | apply zD | apply zC | apply zF | apply zG | apply zO | apply zW) | (with_reducible apply zV; intro w hcl; replace H := H.ext hcl; clear hcl) | refine zA ?_ | refine y20 mixed ?_ | refine y21 ?_ | (refine y23 ?_ ?_; all_goals intro h) | fail)
  all_goals simp only [Bool.not_eq_true', Bool.not_eq_false', decide_eq_true_eq, decide_eq_false_iff_not] at *
  all_goals first
   | exact zQ rfl H.cl (congrArg Value.bool (noB fun q => by
     have h9 := hro.1 ((zCU.1 q).2 k hlt)
     obtain ⟨q1 | q1, q2⟩ := h9
     ·omega
     ·first | omega | (cases q1.symm.trans ‹ok = false›)))
   | (refine zAY (k + 1) rfl ⟨zT (by omega), trivial⟩ ⟨hlt, fun j hj => ?_, H.sub (List.sublist_cons_self _ _)⟩ (by omega)
      rcases (show j < k ∨ j = k by omega) with g | rfl
      ·exact hn j g
      ·exact hro.2 ⟨by first | (left; omega) | (right; assumption), by omega⟩)
 ·obtain rfl : k = s.rows.length := by have := of_decide_eq_false h; omega
  repeat' (first | refine y1 sg ?_ | (with_reducible first | apply zB | apply zD | apply zC | apply zF | apply zL | apply zS) | refine zA ?_ | refine y24 ?_ | fail)
  exact zQ rfl H.cl (congrArg Value.bool (zCU.2 ⟨hR, hn⟩).symm)
end Go.Proofs.YtggolnppckpdlaaGreat
