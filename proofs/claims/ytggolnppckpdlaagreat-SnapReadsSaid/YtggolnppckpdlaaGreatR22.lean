/- Texts of ours, joined: the steps of the proof, or the claim's theorem. -/
import Derived.Test.YtggolnppckpdlaaGreatR12
import Derived.Test.YtggolnppckpdlaaGreatR21
set_option linter.unusedSimpArgs false
set_option linter.unusedVariables false
namespace Go.Proofs.YtggolnppckpdlaaGreat
open Go Go.Sk Go.RowKit
attribute [local irreducible] Go.Calls
def zX (n lo hi : Int) : Bool := decide (lo ≤ n) && decide (n ≤ hi)
theorem zAC (n lo hi : Int) : zX n lo hi = true ↔ (lo ≤ n ∧ n ≤ hi) := by simp [zX]
theorem zFd (n lo hi : Int) (w : World) : Calls Tryz.prog 232 [.int .i64 n, .int .i64 lo, .int .i64 hi].toArray w (Ret (.bool (zX n lo hi)) w) := by
 refine enter [.tmp 6] Tryz.func232 rfl Tryz.ntmps232 rfl rfl ?_
 have H := zH w
 repeat' (first | refine y1 sg ?_ | refine y5 sg ?_ | refine y13 ?_ | refine y14 ?_ | (refine y17 ?_ ?_; all_goals intro h) | (with_reducible first | apply zB | apply zD | apply zC | apply zF) | refine zA ?_ | fail)
 all_goals simp only [decide_eq_true_eq, decide_eq_false_iff_not, ge_iff_le] at *
 all_goals exact zQ rfl H.cl (congrArg Value.bool (by unfold zX; simp only [*, decide_true, decide_false, Bool.true_and, Bool.and_true, Bool.false_and, Bool.and_false]))
theorem zDY (n lo hi : Int) (w : World) : Calls Tryz.prog 146 [.int .i64 n, .int .i64 lo, .int .i64 hi].toArray w (Ret (.bool (zX n lo hi)) w) := by
 refine enter [.tmp 6] Tryz.func146 rfl Tryz.ntmps146 rfl rfl ?_
 have H := zH w
 repeat' (first | refine y1 sg ?_ | refine y5 sg ?_ | refine y13 ?_ | refine y14 ?_ | (refine y17 ?_ ?_; all_goals intro h) | (with_reducible first | apply zB | apply zD | apply zC | apply zF) | refine zA ?_ | fail)
 all_goals simp only [decide_eq_true_eq, decide_eq_false_iff_not, ge_iff_le] at *
 all_goals exact zQ rfl H.cl (congrArg Value.bool (by unfold zX; simp only [*, decide_true, decide_false, Bool.true_and, Bool.and_true, Bool.false_and, Bool.and_false]))
def zDZ (l : List Ac) (s : ByteArray) (j : Nat) : Bool := (ac_ l j).name.toList == s.toList
def zBy (l : List Ac) (s : ByteArray) : Int := idx (zDZ l s) l.length
theorem zN2 {F : zI} (s : Sta) (p : SPt) (nm : ByteArray) (w0 : World) (hF : Mem w0 F) (hs : StaM F s p) :
  Calls Tryz.prog 193 [.agg (s.cells p).toArray, .string nm].toArray w0 (Ret (.int .i64 (zBy s.accts nm + 1)) w0) := by
 obtain ⟨hnc, hcb, b0, off, cs, T, fr, hs⟩ := hs.ac
 refine enter [.tmp 4] Tryz.func193 rfl Tryz.ntmps193 rfl rfl ?_
 have H := zH w0
 repeat' (first | refine y1 sg ?_ | refine y3 ?_ | (refine y9 H ?_; intro b w H) | (with_reducible first | apply zB | apply zD | apply zC | apply zE) | refine zA ?_ | fail)
 refine zK [(4, 22)] (fun k : Nat => [(5, .int .i64 (k : Int))]) (fun k w => k ≤ s.accts.length ∧ (∀ j, j < k → zDZ s.accts nm j = false) ∧ St w0 [cb _ (s.cells p) 29] w) (fun k => s.accts.length - k) 0 ⟨rfl, trivial⟩ ⟨Nat.zero_le _, fun j hj => absurd hj (Nat.not_lt_zero _), H⟩ ?_
 clear H
 rintro k gh w ⟨hk, hn, H⟩
 repeat' (first | refine y1 sg ?_ | refine y3 ?_ | refine y7 sg H ?_ | (with_reducible first | apply zB | apply zD | apply zC) | refine zA ?_ | fail)
 refine zM rfl (fun h => ?_) (fun h => ?_)
 ·have hlt : k < s.accts.length := by have := of_decide_eq_true h; omega
  repeat' (first | refine y1 sg ?_ | refine y3 ?_ | refine y7 sg H ?_ | (refine y40 sg (hs) ?_ ?_ ?_; (omega); (omega)) | (refine y44 sg (hs) ((H.memF hF)) ?_ ?_; (omega)) | (with_reducible first | apply zB | apply zD | apply zC | apply zE | apply zG) | refine zA ?_ | fail)
  refine zM rfl (fun h2 => ?_) (fun h2 => ?_)
  ·repeat' (first | refine y1 sg ?_ | (with_reducible first | apply zB | apply zD | apply zC | apply zF | apply zO | apply zW) | refine zA ?_ | fail)
   exact zQ rfl H.cl (congrArg (Value.int .i64) (by unfold zBy; rw [zA5 hlt hn h2, w64 (by omega) (by omega)]))
  ·repeat' (first | refine y1 sg ?_ | (with_reducible first | apply zB | apply zD | apply zG) | refine zA ?_ | fail)
   refine zJ (k + 1) rfl ⟨zT (by omega), trivial⟩ ⟨hlt, fun j hj => ?_, H⟩ (by omega)
   rcases (show j < k ∨ j = k by omega) with g | rfl
   ·exact hn j g
   ·exact h2
 ·obtain rfl : k = s.accts.length := by have := of_decide_eq_false h; omega
  repeat' (first | refine y1 sg ?_ | (with_reducible first | apply zB | apply zD | apply zC | apply zF | apply zL | apply zS) | refine zA ?_ | refine y24 ?_ | fail)
  exact zQ rfl H.cl (congrArg (Value.int .i64) (by unfold zBy; rw [zAm hn]; rfl))
def zN3 (l : List Ac) (k : Nat) : Bool := z6 (ac_ l k).name && (zBy l (ac_ l k).name == (k : Int))
def zCn (l : List Ac) : Bool := decide (l.length ≤ 64) && (List.range l.length).all fun k => zN3 l k
theorem zDD {l : List Ac} : zCn l = true ↔ l.length ≤ 64 ∧ ∀ k, k < l.length → z6 (ac_ l k).name = true ∧ zBy l (ac_ l k).name = k := by
 unfold zCn zN3
 rw [Bool.and_eq_true, decide_eq_true_eq, List.all_eq_true]
 simp only [List.mem_range, Bool.and_eq_true, beq_iff_eq]
theorem noB {b : Bool} (h : b = true → False) : false = b := by
 cases b with
 | false => rfl
 | true => exact (h rfl).elim
theorem zMB (l : List Ac) (s : ByteArray) : -1 ≤ zBy l s ∧ zBy l s < l.length := by
 rcases z7 (zDZ l s) l.length with ⟨k, h1, _, _, h2⟩ | ⟨_, h2⟩ <;> (unfold zBy; rw [h2]; omega)
set_option maxHeartbeats 2000000 in
theorem zIf {F : zI} (s : Sta) (p : SPt) (w0 : World) (hF : Mem w0 F) (hs0 : StaM F s p) :
  Calls Tryz.prog 147 [.agg (s.cells p).toArray].toArray w0 (Ret (.bool (zCn s.accts)) w0) := by
 obtain ⟨hnc, hcb, b0, off, cs, T, fr, hs⟩ := hs0.ac
 refine enter [.tmp 2] Tryz.func147 rfl Tryz.ntmps147 rfl rfl ?_
 have H := zH w0
 repeat' (first | refine y1 sg ?_ | refine y3 ?_ | (refine y9 H ?_; intro b w H) | (with_reducible first | apply zB | apply zD | apply zC | apply zE) | refine zA ?_ | fail)
 refine zK [(2, 35)] (fun k : Nat => [(3, .int .i64 (k : Int))]) (fun k w => k ≤ s.accts.length ∧ k ≤ 64 ∧ (∀ j, j < k → z6 (ac_ s.accts j).name = true ∧ zBy s.accts (ac_ s.accts j).name = j) ∧ St w0 [cb _ (s.cells p) 29] w) (fun k => s.accts.length - k) 0 ⟨rfl, trivial⟩ ⟨Nat.zero_le _, Nat.zero_le _, fun j hj => absurd hj (Nat.not_lt_zero _), H⟩ ?_
 clear H
 rintro k gh w ⟨hk, hk2, hn, H⟩
 repeat' (first | refine y1 sg ?_ | refine y3 ?_ | refine y7 sg H ?_ | (with_reducible first | apply zB | apply zD | apply zC) | refine zA ?_ | fail)
 refine zM rfl (fun h => ?_) (fun h => ?_)
 ·have hlt : k < s.accts.length := by have := of_decide_eq_true h; omega
  clear h
  have hfacts : zCn s.accts = true → k < 64 ∧ z6 (ac_ s.accts k).name = true ∧ zBy s.accts (ac_ s.accts k).name = k := fun q => by
   obtain ⟨q1, q2⟩ := zDD.1 q
   exact ⟨by omega, q2 k hlt⟩
  have hbd := zMB s.accts (ac_ s.accts k).name
  have hq : IntKind.i64.wrap ((k : Int) + 1) = ((k + 1 : Nat) : Int) := by rw [w64 (by omega) (by omega)]; omega
  repeat' (first | refine y1 sg ?_ | refine y2 sg ?_ | refine y6 sg ?_ | refine y8 sg H ?_ | (refine y41 sg (hs) ?_ ?_ ?_; (omega); (omega)) | (refine y45 sg (hs) ((H.memF hF)) ?_ ?_; (omega)) | (refine' y31 zMu ?_ ?_; rotate_left; exact (fun _ hcl => zFy (ac_ s.accts k).name _)) | (refine' y31 ent193 ?_ ?_; rotate_left; exact (fun _ hcl => zN2 s p (ac_ s.accts k).name _ ((H.ext hcl).memF hF) hs0)) | refine y15 ?_ | refine y16 ?_ | (refine y18 ?_ ?_; all_goals intro h) | (with_reducible first | apply zB | apply zD | apply zC | apply zE | apply zF | apply zG | apply zO | apply zW) | (with_reducible apply zV; intro w hcl; replace H := H.ext hcl; clear hcl) | refine zA ?_ | refine y20 mixed ?_ | refine y21 ?_ | (refine y23 ?_ ?_; all_goals intro h) | fail)
  all_goals simp only [Bool.not_eq_true', Bool.not_eq_false', decide_eq_true_eq, decide_eq_false_iff_not, bne_iff_ne, ne_eq, bne_eq_false_iff_eq] at *
  all_goals first
   | exact zQ rfl H.cl (congrArg Value.bool (noB fun q => by
     obtain ⟨q1, q2, q3⟩ := hfacts q
     first | omega | (cases q2.symm.trans ‹z6 _ = false›) | (rw [hq] at h; omega)))
   | (rw [hq] at h
      refine zJ (k + 1) rfl ⟨zT (by omega), trivial⟩ ⟨hlt, by omega, fun j hj => ?_, H⟩ (by omega)
      rcases (show j < k ∨ j = k by omega) with g | rfl
      ·exact hn j g
      ·exact ⟨‹_›, by omega⟩)
 ·obtain rfl : k = s.accts.length := by have := of_decide_eq_false h; omega
  repeat' (first | refine y1 sg ?_ | (with_reducible first | apply zB | apply zD | apply zC | apply zF | apply zL | apply zS) | refine zA ?_ | refine y24 ?_ | fail)
  exact zQ rfl H.cl (congrArg Value.bool (zDD.2 ⟨hk2, hn⟩).symm)
end Go.Proofs.YtggolnppckpdlaaGreat
