/- Texts of ours, joined: the steps of the proof, or the claim's theorem. -/
import Derived.Test.YtggolnppckpdlaaGreatT13
import Derived.Test.YtggolnppckpdlaaGreatT22
set_option linter.unusedSimpArgs false
set_option linter.unusedVariables false
namespace Go.Proofs.YtggolnppckpdlaaGreat
open Go Go.Sk Go.RowKit
attribute [local irreducible] Go.Calls
def zd (n lo hi : Int) : Bool := decide (lo ≤ n) && decide (n ≤ hi)
theorem zAF (n lo hi : Int) : zd n lo hi = true ↔ (lo ≤ n ∧ n ≤ hi) := by simp [zd]
theorem zFv (n lo hi : Int) (w : World) : Calls Tryz.prog 232 [.int .i64 n, .int .i64 lo, .int .i64 hi].toArray w (Ret (.bool (zd n lo hi)) w) := by
 refine enter [.tmp 6] Tryz.func232 rfl Tryz.ntmps232 rfl rfl ?_
 have H := zE w
 repeat' (first | refine y1 sg ?_ | refine y5 sg ?_ | refine y13 ?_ | refine y14 ?_ | (refine y17 ?_ ?_; all_goals intro h) | (with_reducible first | apply zB | apply zD | apply zC | apply zG) | refine zA ?_ | fail)
 all_goals simp only [decide_eq_true_eq, decide_eq_false_iff_not, ge_iff_le] at *
 all_goals exact zO rfl H.cl (congrArg Value.bool (by unfold zd; simp only [*, decide_true, decide_false, Bool.true_and, Bool.and_true, Bool.false_and, Bool.and_false]))
theorem zDr (n lo hi : Int) (w : World) : Calls Tryz.prog 146 [.int .i64 n, .int .i64 lo, .int .i64 hi].toArray w (Ret (.bool (zd n lo hi)) w) := by
 refine enter [.tmp 6] Tryz.func146 rfl Tryz.ntmps146 rfl rfl ?_
 have H := zE w
 repeat' (first | refine y1 sg ?_ | refine y5 sg ?_ | refine y13 ?_ | refine y14 ?_ | (refine y17 ?_ ?_; all_goals intro h) | (with_reducible first | apply zB | apply zD | apply zC | apply zG) | refine zA ?_ | fail)
 all_goals simp only [decide_eq_true_eq, decide_eq_false_iff_not, ge_iff_le] at *
 all_goals exact zO rfl H.cl (congrArg Value.bool (by unfold zd; simp only [*, decide_true, decide_false, Bool.true_and, Bool.and_true, Bool.false_and, Bool.and_false]))
def zDs (l : List Ac) (s : ByteArray) (j : Nat) : Bool := (ac_ l j).name.toList == s.toList
def zB6 (l : List Ac) (s : ByteArray) : Int := idx (zDs l s) l.length
theorem zNv {F : zI} (s : Sta) (p : SPt) (nm : ByteArray) (w0 : World) (hF : Mem w0 F) (hs : StaM F s p) :
  Calls Tryz.prog 193 [.agg (s.cells p).toArray, .string nm].toArray w0 (Ret (.int .i64 (zB6 s.accts nm + 1)) w0) := by
 obtain ⟨hnc, hcb, b0, off, cs, T, fr, hs⟩ := hs.ac
 refine enter [.tmp 4] Tryz.func193 rfl Tryz.ntmps193 rfl rfl ?_
 have H := zE w0
 repeat' (first | refine y1 sg ?_ | refine y3 ?_ | (refine y9 H ?_; intro b w H) | (with_reducible first | apply zB | apply zD | apply zC | apply zF) | refine zA ?_ | fail)
 refine zK [(4, 22)] (fun k : Nat => [(5, .int .i64 (k : Int))]) (fun k w => k ≤ s.accts.length ∧ (∀ j, j < k → zDs s.accts nm j = false) ∧ St w0 [cb _ (s.cells p) 29] w) (fun k => s.accts.length - k) 0 ⟨rfl, trivial⟩ ⟨Nat.zero_le _, fun j hj => absurd hj (Nat.not_lt_zero _), H⟩ ?_
 clear H
 rintro k gh w ⟨hk, hn, H⟩
 repeat' (first | refine y1 sg ?_ | refine y3 ?_ | refine y7 sg H ?_ | (with_reducible first | apply zB | apply zD | apply zC) | refine zA ?_ | fail)
 refine zL rfl (fun h => ?_) (fun h => ?_)
 ·have hlt : k < s.accts.length := by have := of_decide_eq_true h; omega
  repeat' (first | refine y1 sg ?_ | refine y3 ?_ | refine y7 sg H ?_ | (refine y40 sg (hs) ?_ ?_ ?_; (omega); (omega)) | (refine y44 sg (hs) ((H.memF hF)) ?_ ?_; (omega)) | (with_reducible first | apply zB | apply zD | apply zC | apply zF | apply zH) | refine zA ?_ | fail)
  refine zL rfl (fun h2 => ?_) (fun h2 => ?_)
  ·repeat' (first | refine y1 sg ?_ | (with_reducible first | apply zB | apply zD | apply zC | apply zG | apply zP | apply za) | refine zA ?_ | fail)
   exact zO rfl H.cl (congrArg (Value.int .i64) (by unfold zB6; rw [zA7 hlt hn h2, w64 (by omega) (by omega)]))
  ·repeat' (first | refine y1 sg ?_ | (with_reducible first | apply zB | apply zD | apply zH) | refine zA ?_ | fail)
   refine zM (k + 1) rfl ⟨zV (by omega), trivial⟩ ⟨hlt, fun j hj => ?_, H⟩ (by omega)
   rcases (show j < k ∨ j = k by omega) with g | rfl
   ·exact hn j g
   ·exact h2
 ·obtain rfl : k = s.accts.length := by have := of_decide_eq_false h; omega
  repeat' (first | refine y1 sg ?_ | (with_reducible first | apply zB | apply zD | apply zC | apply zG | apply zN | apply zW) | refine zA ?_ | refine y24 ?_ | fail)
  exact zO rfl H.cl (congrArg (Value.int .i64) (by unfold zB6; rw [zAq hn]; rfl))
def zNw (l : List Ac) (k : Nat) : Bool := zAB (ac_ l k).name && (zB6 l (ac_ l k).name == (k : Int))
def zCd (l : List Ac) : Bool := decide (l.length ≤ 64) && (List.range l.length).all fun k => zNw l k
theorem zCe {l : List Ac} : zCd l = true ↔ l.length ≤ 64 ∧ ∀ k, k < l.length → zAB (ac_ l k).name = true ∧ zB6 l (ac_ l k).name = k := by
 unfold zCd zNw
 rw [Bool.and_eq_true, decide_eq_true_eq, List.all_eq_true]
 simp only [List.mem_range, Bool.and_eq_true, beq_iff_eq]
theorem noB {b : Bool} (h : b = true → False) : false = b := by
 cases b with
 | false => rfl
 | true => exact (h rfl).elim
theorem zL2 (l : List Ac) (s : ByteArray) : -1 ≤ zB6 l s ∧ zB6 l s < l.length := by
 rcases zAC (zDs l s) l.length with ⟨k, h1, _, _, h2⟩ | ⟨_, h2⟩ <;> (unfold zB6; rw [h2]; omega)
set_option maxHeartbeats 2000000 in
theorem zIi {F : zI} (s : Sta) (p : SPt) (w0 : World) (hF : Mem w0 F) (hs0 : StaM F s p) :
  Calls Tryz.prog 147 [.agg (s.cells p).toArray].toArray w0 (Ret (.bool (zCd s.accts)) w0) := by
 obtain ⟨hnc, hcb, b0, off, cs, T, fr, hs⟩ := hs0.ac
 refine enter [.tmp 2] Tryz.func147 rfl Tryz.ntmps147 rfl rfl ?_
 have H := zE w0
 repeat' (first | refine y1 sg ?_ | refine y3 ?_ | (refine y9 H ?_; intro b w H) | (with_reducible first | apply zB | apply zD | apply zC | apply zF) | refine zA ?_ | fail)
 refine zK [(2, 35)] (fun k : Nat => [(3, .int .i64 (k : Int))]) (fun k w => k ≤ s.accts.length ∧ k ≤ 64 ∧ (∀ j, j < k → zAB (ac_ s.accts j).name = true ∧ zB6 s.accts (ac_ s.accts j).name = j) ∧ St w0 [cb _ (s.cells p) 29] w) (fun k => s.accts.length - k) 0 ⟨rfl, trivial⟩ ⟨Nat.zero_le _, Nat.zero_le _, fun j hj => absurd hj (Nat.not_lt_zero _), H⟩ ?_
 clear H
 rintro k gh w ⟨hk, hk2, hn, H⟩
 repeat' (first | refine y1 sg ?_ | refine y3 ?_ | refine y7 sg H ?_ | (with_reducible first | apply zB | apply zD | apply zC) | refine zA ?_ | fail)
 refine zL rfl (fun h => ?_) (fun h => ?_)
 ·have hlt : k < s.accts.length := by have := of_decide_eq_true h; omega
  clear h
  have hfacts : zCd s.accts = true → k < 64 ∧ zAB (ac_ s.accts k).name = true ∧ zB6 s.accts (ac_ s.accts k).name = k := fun q => by
   obtain ⟨q1, q2⟩ := zCe.1 q
   exact ⟨by omega, q2 k hlt⟩
  have hbd := zL2 s.accts (ac_ s.accts k).name
  have hq : IntKind.i64.wrap ((k : Int) + 1) = ((k + 1 : Nat) : Int) := by rw [w64 (by omega) (by omega)]; omega
  repeat' (first | refine y1 sg ?_ | refine y2 sg ?_ | refine y6 sg ?_ | refine y8 sg H ?_ | (refine y41 sg (hs) ?_ ?_ ?_; (omega); (omega)) | (refine y45 sg (hs) ((H.memF hF)) ?_ ?_; (omega)) | (refine' y31 zMw ?_ ?_; rotate_left; exact (fun _ hcl => zGK (ac_ s.accts k).name _)) | (refine' y31 ent193 ?_ ?_; rotate_left; exact (fun _ hcl => zNv s p (ac_ s.accts k).name _ ((H.ext hcl).memF hF) hs0)) | refine y15 ?_ | refine y16 ?_ | (refine y18 ?_ ?_; all_goals intro h) | (with_reducible first | apply zB | apply zD | apply zC | apply zF | apply zG | apply zH | apply zP | apply za) | (with_reducible apply zb; intro w hcl; replace H := H.ext hcl; clear hcl) | refine zA ?_ | refine y20 zZ ?_ | refine y21 ?_ | (refine y23 ?_ ?_; all_goals intro h) | fail)
  all_goals simp only [Bool.not_eq_true', Bool.not_eq_false', decide_eq_true_eq, decide_eq_false_iff_not, bne_iff_ne, ne_eq, bne_eq_false_iff_eq] at *
  all_goals first
   | exact zO rfl H.cl (congrArg Value.bool (noB fun q => by
     obtain ⟨q1, q2, q3⟩ := hfacts q
     first | omega | (cases q2.symm.trans ‹zAB _ = false›) | (rw [hq] at h; omega)))
   | (rw [hq] at h
      refine zM (k + 1) rfl ⟨zV (by omega), trivial⟩ ⟨hlt, by omega, fun j hj => ?_, H⟩ (by omega)
      rcases (show j < k ∨ j = k by omega) with g | rfl
      ·exact hn j g
      ·exact ⟨‹_›, by omega⟩)
 ·obtain rfl : k = s.accts.length := by have := of_decide_eq_false h; omega
  repeat' (first | refine y1 sg ?_ | (with_reducible first | apply zB | apply zD | apply zC | apply zG | apply zN | apply zW) | refine zA ?_ | refine y24 ?_ | fail)
  exact zO rfl H.cl (congrArg Value.bool (zCe.2 ⟨hk2, hn⟩).symm)
end Go.Proofs.YtggolnppckpdlaaGreat
