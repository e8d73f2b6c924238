/- Texts of ours, joined: the steps of the proof, or the claim's theorem. -/
import Derived.Test.YtggolnppckpdlaaGreatR25
import Derived.Test.YtggolnppckpdlaaGreatR29
set_option linter.unusedSimpArgs false
set_option linter.unusedVariables false
namespace Go.Proofs.YtggolnppckpdlaaGreat
open Go Go.Sk Go.RowKit
attribute [local irreducible] Go.Calls
def zGX (l : List Row4) (a q : Int) : Row4 := (l.find? fun r => r.acct == a && r.asset == q).getD ⟨a, q, 0, 0⟩
theorem zLa {l : List Row4} {p : Row4 → Bool} {k : Nat} (hk : k < l.length) (hno : ∀ j, j < k → p (rw_ l j) = false) (hy : p (rw_ l k) = true) : l.find? p = some (rw_ l k) := by
 induction l generalizing k with
 | nil => exact absurd hk (Nat.not_lt_zero k)
 | cons x xs ih =>
   rcases k with _ | k
   ·have : p x = true := hy
    rw [List.find?_cons_of_pos this]; rfl
   ·have h0 : p x = false := hno 0 (by omega)
    rw [List.find?_cons_of_neg (by rw [h0]; simp)]
    exact ih (by simpa using hk) (fun j hj => hno (j + 1) (by omega)) hy
theorem zHM {l : List Row4} {p : Row4 → Bool} (hno : ∀ j, j < l.length → p (rw_ l j) = false) : l.find? p = none := by
 rw [List.find?_eq_none]
 intro x hx
 obtain ⟨j, hj, rfl⟩ := List.mem_iff_getElem.1 hx
 have := hno j hj
 unfold rw_ at this
 rw [List.getD_eq_getElem?_getD, List.getElem?_eq_getElem hj] at this
 simpa using this
theorem c_RGet {F : zI} {ad : Option Addr} {cap : Nat} (l : List Row4) (a q : Int) (w0 : World) (hF : Mem w0 F) (hs : SlA F 4 ad l.length cap (rwl l)) :
  Calls Tryz.prog 199 [.slice ad l.length cap, .int .i64 a, .int .i64 q].toArray w0 (Ret (.agg (zGX l a q).cells.toArray) w0) := by
 obtain ⟨hnc, hcb, b0, off, cs, T, fr, hs⟩ := hs
 refine enter [.cell 6 74] Tryz.func199 rfl Tryz.ntmps199 rfl rfl ?_
 have H := zH w0
 repeat' (first | refine y1 sg ?_ | refine y3 ?_ | (refine y10 sg H ?_; intro b w H) | (with_reducible first | apply zB | apply zD | apply zC | apply zE) | refine zA ?_ | fail)
 refine zK [(7, 33)] (fun k : Nat => [(7, .int .i64 (k : Int))]) (fun k w => St w0 [cb _ [.int .i64 0, .int .i64 0, .int .i64 0, .int .i64 0] 74] w ∧ k ≤ l.length ∧ ∀ j, j < k → ((rw_ l j).acct == a && (rw_ l j).asset == q) = false) (fun k => l.length - k) 0 ⟨rfl, trivial⟩ ⟨H, Nat.zero_le _, fun j hj => absurd hj (Nat.not_lt_zero j)⟩ ?_
 clear H
 rintro k gh w ⟨H, hk, hno⟩
 by_cases hlt : k < l.length
 ·have d1 : decide ((k : Int) < (l.length : Int)) = true := decide_eq_true (by omega)
  repeat' (first | refine y1 sg ?_ | refine y3 ?_ | refine y5 sg ?_ | (refine y11 sg H ?_; intro w H) | (refine y40 sg (hs) ?_ ?_ ?_; (omega); (omega)) | (refine y44 sg (hs) ((H.memF hF)) ?_ ?_; (omega)) | (refine y42 sg (hs) ((H.memF hF)) ?_ ?_; (omega)) | refine y13 ?_ | refine y14 ?_ | (refine y17 ?_ ?_; all_goals (intro h; try (exfalso; first | ((rw [d1] at h; cases h); done)))) | (with_reducible first | apply zB | apply zD | apply zC | apply zE | apply zF | apply zG | apply zO | apply zW) | refine zA ?_ | refine y22 ?_ | (refine y23 ?_ ?_; all_goals (intro h; try (exfalso; first | ((rw [d1] at h; cases h); done)))) | fail)
  all_goals first
   | exact zCY (vs := [_]) ⟨zAF sg rfl H.mem (by repeat (first | exact List.Mem.head _ | exact List.mem_append_right _ (List.Mem.head _) | refine List.Mem.tail _ ?_)) rfl rfl, trivial⟩ H.cl (by
     unfold zGX
     rw [zLa (p := fun r => r.acct == a && r.asset == q) hlt hno (by simp_all)]
     rfl)
   | exact zJ (k + 1) rfl ⟨zT (by omega), trivial⟩ ⟨H, hlt, fun j hj => by
     by_cases hjk : j = k
     ·subst hjk; simp_all
     ·exact hno j (by omega)⟩ (by omega)
   | trace_state
 ·obtain rfl : k = l.length := by omega
  have d1 : decide ((l.length : Int) < (l.length : Int)) = false := decide_eq_false (by omega)
  repeat' (first | refine y1 sg ?_ | refine y3 ?_ | (refine y11 sg H ?_; intro w H) | (with_reducible first | apply zB | apply zD | apply zC | apply zF | apply zL | apply zS) | refine zA ?_ | refine y24 ?_ | (refine y23 ?_ ?_; all_goals (intro h; try (exfalso; first | ((rw [d1] at h; cases h); done)))) | fail)
  all_goals first
   | exact zCY (vs := [_]) ⟨zAF sg rfl H.mem (by repeat (first | exact List.Mem.head _ | exact List.mem_append_right _ (List.Mem.head _) | refine List.Mem.tail _ ?_)) rfl rfl, trivial⟩ H.cl (by
     unfold zGX
     rw [zHM (p := fun r => r.acct == a && r.asset == q) hno]
     rfl)
   | trace_state
def zCI (l : List Odr) (a q : Int) : Nat → Int
 | 0 => 0
 | k + 1 => if (od_ l k).acct = a ∧ (zA1 (od_ l k)).1 = q then IntKind.i64.wrap (zCI l a q k + (zA1 (od_ l k)).2) else zCI l a q k
def zCJ (l : List Bid) (a q z : Int) : Nat → Int
 | 0 => z
 | k + 1 => if (l.getD k default).acct = a ∧ q = 0 then IntKind.i64.wrap (zCJ l a q z k + (l.getD k default).amount) else zCJ l a q z k
def zCh (l : List Auc) (a q z : Int) : Nat → Int
 | 0 => z
 | k + 1 => if zBX (l.getD k default) = true then zCJ (l.getD k default).bids a q (if (l.getD k default).seller = a ∧ (l.getD k default).inst = q then IntKind.i64.wrap (zCh l a q z k + (l.getD k default).qty) else zCh l a q z k) (l.getD k default).bids.length else zCh l a q z k
def zFM (s : Sta) (a q : Int) : Int := zCh s.aucs a q (zCI s.orders a q s.orders.length) s.aucs.length
set_option maxHeartbeats 8000000 in
theorem zMV {F : zI} (s : Sta) (p : SPt) (a q : Int) (w0 : World) (hF : Mem w0 F) (hs : StaM F s p) :
  Calls Tryz.prog 200 [.agg (s.cells p).toArray, .int .i64 a, .int .i64 q].toArray w0 (Ret (.int .i64 (zFM s a q)) w0) := by
 obtain ⟨_, _, _, ho, hu⟩ := hs
 obtain ⟨hno, hco, bo, offo, cso, To, fro, ho⟩ := ho
 obtain ⟨⟨hnu, hcu, bu, offu, csu, Tu, fru, hu⟩, hub⟩ := hu
 refine enter [.tmp 6] Tryz.func200 rfl Tryz.ntmps200 rfl rfl ?_
 have H := zH w0
 repeat' (first | refine y1 sg ?_ | refine y3 ?_ | (refine y9 H ?_; intro b w H) | (with_reducible first | apply zB | apply zD | apply zC | apply zE) | refine zA ?_ | fail)
 refine zK [(7, 10), (14, 45)] (fun k : Nat => [(8, .int .i64 (k : Int)), (7, .int .i64 (zCI s.orders a q k))]) (fun k w => St w0 [cb _ (s.cells p) 29] w ∧ k ≤ s.orders.length) (fun k => s.orders.length - k) 0 ⟨rfl, rfl, trivial⟩ ⟨H, Nat.zero_le _⟩ ?_
 clear H
 rintro k gh w ⟨H, hk⟩
 by_cases hlt : k < s.orders.length
 ·have d1 : decide ((k : Int) < (s.orders.length : Int)) = true := decide_eq_true (by omega)
  have hup : zCI s.orders a q (k + 1) = if (od_ s.orders k).acct = a ∧ (zA1 (od_ s.orders k)).1 = q then IntKind.i64.wrap (zCI s.orders a q k + (zA1 (od_ s.orders k)).2) else zCI s.orders a q k := rfl
  generalize zCI s.orders a q k = z at hup ⊢
  repeat' (first | refine y1 sg ?_ | refine y3 ?_ | refine y5 sg ?_ | refine y7 sg H ?_ | (refine y40 sg (ho) ?_ ?_ ?_; (omega); (omega)) | (refine y42 sg (ho) ((H.memF hF)) ?_ ?_; (omega)) | (refine y44 sg (ho) ((H.memF hF)) ?_ ?_; (omega)) | (refine' y30 ent229 ?_ ?_; rotate_left; exact zNU (od_ s.orders k) _; intro w hcl; replace H := H.ext hcl; clear hcl) | refine y13 ?_ | refine y14 ?_ | (refine y17 ?_ ?_; all_goals (intro h; try (exfalso; first | ((rw [d1] at h; cases h); done)))) | (with_reducible first | apply zB | apply zD | apply zC | apply zE | apply zG) | refine zA ?_ | refine y22 ?_ | (refine y23 ?_ ?_; all_goals (intro h; try (exfalso; first | ((rw [d1] at h; cases h); done)))) | fail)
  all_goals simp only [beq_iff_eq, beq_eq_false_iff_ne, ne_eq, Bool.not_eq_true] at *
  all_goals first
   | exact zJ (k + 1) rfl ⟨zT (by omega), congrArg (Value.int .i64) (by rw [hup, if_pos ⟨by assumption, by assumption⟩]), trivial⟩ ⟨H, hlt⟩ (by omega)
   | exact zJ (k + 1) rfl ⟨zT (by omega), congrArg (Value.int .i64) (by rw [hup, if_neg (fun hh => by first | exact absurd hh.1 ‹_› | exact absurd hh.2 ‹_›)]), trivial⟩ ⟨H, hlt⟩ (by omega)
   | trace_state
 obtain rfl : k = s.orders.length := by omega
 have d1 : decide ((s.orders.length : Int) < (s.orders.length : Int)) = false := decide_eq_false (by omega)
 have hfin : zFM s a q = zCh s.aucs a q (zCI s.orders a q s.orders.length) s.aucs.length := rfl
 generalize zCI s.orders a q s.orders.length = z0 at hfin ⊢
 repeat' (first | refine y1 sg ?_ | refine y3 ?_ | refine y7 sg H ?_ | (with_reducible first | apply zB | apply zD | apply zC) | refine zA ?_ | fail)
 refine zM rfl (fun h => absurd h (by rw [d1]; decide)) (fun h => ?_)
 clear h d1 hlt hk
 repeat' (first | refine y1 sg ?_ | (with_reducible first | apply zB | apply zD | apply zC | apply zE | apply zL | apply zS) | refine zA ?_ | refine y24 ?_ | fail)
 refine zK [(7, 7), (11, 13), (46, 101)] (fun k : Nat => [(11, .int .i64 (k : Int)), (7, .int .i64 (zCh s.aucs a q z0 k))]) (fun k w => St w0 [cb _ (s.cells p) 29] w ∧ k ≤ s.aucs.length) (fun k => s.aucs.length - k) 0 ⟨rfl, rfl, trivial⟩ ⟨H, Nat.zero_le _⟩ ?_
 clear H
 rintro k gh w ⟨H, hk⟩
 by_cases hlt : k < s.aucs.length
 ·have d1 : decide ((k : Int) < (s.aucs.length : Int)) = true := decide_eq_true (by omega)
  have hup : zCh s.aucs a q z0 (k + 1) = if zBX (s.aucs.getD k default) = true then zCJ (s.aucs.getD k default).bids a q (if (s.aucs.getD k default).seller = a ∧ (s.aucs.getD k default).inst = q then IntKind.i64.wrap (zCh s.aucs a q z0 k + (s.aucs.getD k default).qty) else zCh s.aucs a q z0 k) (s.aucs.getD k default).bids.length else zCh s.aucs a q z0 k := rfl
  have hbk := hub k hlt
  have CM := fun w hM => zJy (F := F) (s.aucs.getD k default) w hM hbk
  have hel : ael s.aucs p.ad k = (s.aucs.getD k default).cells (p.ad k).1 (p.ad k).2 := rfl
  obtain ⟨hnb, hcb, bb, offb, csb, Tb, frb, hb⟩ := hbk
  generalize zCh s.aucs a q z0 k = z at hup ⊢
  cases hm : zBX (s.aucs.getD k default)
  ·rw [hm] at CM hup
   rw [if_neg (by simp)] at hup
   repeat' (first | refine y1 sg ?_ | refine y3 ?_ | refine y7 sg H ?_ | (refine y10 sg H ?_; intro b w H) | (refine y11 sg H ?_; intro w H) | (refine y40 sg (hu) ?_ ?_ ?_; (omega); (omega)) | (refine y42 sg (hu) ((H.memF hF)) ?_ ?_; (omega)) | (refine' y30 zHU ?_ ?_; rotate_left; exact CM _ (H.memF hF); intro w hcl; replace H := H.ext hcl; clear hcl) | (with_reducible first | apply zB | apply zD | apply zC | apply zE | apply zL | apply zG) | refine zA ?_ | refine y21 ?_ | (refine y23 ?_ ?_; all_goals (intro h; try (exfalso; first | ((rw [d1] at h; cases h); done)))) | fail)
   all_goals first
    | exact zJ (k + 1) rfl ⟨zT (by omega), congrArg (Value.int .i64) hup.symm, trivial⟩ ⟨H.sub (List.sublist_cons_self _ _), hlt⟩ (by omega)
    | exact zAY (k + 1) rfl ⟨zT (by omega), congrArg (Value.int .i64) hup.symm, trivial⟩ ⟨H.sub (List.sublist_cons_self _ _), hlt⟩ (by omega)
    | trace_state
  ·rw [hm] at CM hup
   rw [if_pos rfl] at hup
   obtain ⟨z1, hz1⟩ : ∃ z1, (if (s.aucs.getD k default).seller = a ∧ (s.aucs.getD k default).inst = q then IntKind.i64.wrap (z + (s.aucs.getD k default).qty) else z) = z1 := ⟨_, rfl⟩
   rw [hz1] at hup
   repeat' (first | refine y1 sg ?_ | refine y3 ?_ | refine y5 sg ?_ | refine y7 sg H ?_ | (refine y10 sg H ?_; intro b w H) | (refine y11 sg H ?_; intro w H) | (refine y40 sg (hu) ?_ ?_ ?_; (omega); (omega)) | (refine y42 sg (hu) ((H.memF hF)) ?_ ?_; (omega)) | (refine' y30 zHU ?_ ?_; rotate_left; exact CM _ (H.memF hF); intro w hcl; replace H := H.ext hcl; clear hcl) | refine y13 ?_ | refine y14 ?_ | (refine y17 ?_ ?_; all_goals (intro h; try (exfalso; first | ((rw [d1] at h; cases h); done)))) | (with_reducible first | apply zB | apply zD | apply zC | apply zE | apply zG) | refine zA ?_ | refine y22 ?_ | (refine y23 ?_ ?_; all_goals (intro h; try (exfalso; first | ((rw [d1] at h; cases h); done)))) | fail)
   all_goals simp only [beq_iff_eq, beq_eq_false_iff_ne, ne_eq, Bool.not_eq_true] at *
   all_goals
    (refine zK [(7, 7), (13, 13), (75, 101)] (fun j : Nat => [(13, .int .i64 (j : Int)), (7, .int .i64 (zCJ (s.aucs.getD k default).bids a q z1 j))]) (fun j w => St w0 [cb _ ((s.aucs.getD k default).cells (p.ad k).1 (p.ad k).2) 81, cb _ (s.cells p) 29] w ∧ j ≤ (s.aucs.getD k default).bids.length) (fun j => (s.aucs.getD k default).bids.length - j) 0 ⟨rfl, congrArg (Value.int .i64) (by
      rw [← hz1]
      first
      | exact if_pos ⟨by assumption, by assumption⟩
      | exact (if_pos ⟨by assumption, by assumption⟩).symm
      | exact (if_neg (fun hh => by first | exact absurd hh.1 ‹_› | exact absurd hh.2 ‹_›)).symm), trivial⟩ ⟨H, Nat.zero_le _⟩ ?_
     clear H
     rintro j gh2 w ⟨H, hj⟩)
   all_goals
    (by_cases hjl : j < (s.aucs.getD k default).bids.length
     ·have d2 : decide ((j : Int) < ((s.aucs.getD k default).bids.length : Int)) = true := decide_eq_true (by omega)
      have hub2 : zCJ (s.aucs.getD k default).bids a q z1 (j + 1) = if ((s.aucs.getD k default).bids.getD j default).acct = a ∧ q = 0 then IntKind.i64.wrap (zCJ (s.aucs.getD k default).bids a q z1 j + ((s.aucs.getD k default).bids.getD j default).amount) else zCJ (s.aucs.getD k default).bids a q z1 j := rfl
      generalize zCJ (s.aucs.getD k default).bids a q z1 j = zz at hub2 ⊢
      repeat' (first | refine y1 sg ?_ | refine y3 ?_ | refine y5 sg ?_ | refine y7 sg H ?_ | (refine y40 sg (hb) ?_ ?_ ?_; (omega); (omega)) | (refine y44 sg (hb) ((H.memF hF)) ?_ ?_; (omega)) | refine y13 ?_ | refine y14 ?_ | (refine y17 ?_ ?_; all_goals (intro h; try (exfalso; first | ((rw [d2] at h; cases h); done)))) | (with_reducible first | apply zB | apply zD | apply zC | apply zE | apply zG) | refine zA ?_ | refine y22 ?_ | (refine y23 ?_ ?_; all_goals (intro h; try (exfalso; first | ((rw [d2] at h; cases h); done)))) | fail)
      all_goals simp only [beq_iff_eq, beq_eq_false_iff_ne, ne_eq, Bool.not_eq_true] at *
      all_goals first
       | exact zJ (j + 1) rfl ⟨zT (by omega), congrArg (Value.int .i64) (by rw [hub2]; exact (if_pos ⟨by assumption, by assumption⟩).symm), trivial⟩ ⟨H, hjl⟩ (by omega)
       | exact zJ (j + 1) rfl ⟨zT (by omega), congrArg (Value.int .i64) (by rw [hub2]; exact (if_neg (fun hh => by first | exact absurd hh.1 ‹_› | exact absurd hh.2 ‹_›)).symm), trivial⟩ ⟨H, hjl⟩ (by omega)
       | trace_state
     ·obtain rfl : j = (s.aucs.getD k default).bids.length := by omega
      have d2 : decide (((s.aucs.getD k default).bids.length : Int) < ((s.aucs.getD k default).bids.length : Int)) = false := decide_eq_false (by omega)
      generalize zCJ (s.aucs.getD k default).bids a q z1 (s.aucs.getD k default).bids.length = zz at hup ⊢
      repeat' (first | refine y1 sg ?_ | refine y3 ?_ | refine y7 sg H ?_ | (with_reducible first | apply zB | apply zD | apply zC | apply zL) | refine zA ?_ | (refine y23 ?_ ?_; all_goals (intro h; try (exfalso; first | ((rw [d2] at h; cases h); done)))) | fail)
      exact zAY (k + 1) rfl ⟨zT (by omega), congrArg (Value.int .i64) hup.symm, trivial⟩ ⟨H.sub (by repeat (first | exact List.Sublist.refl _ | exact List.nil_sublist _ | apply List.Sublist.cons_cons | apply List.Sublist.cons)), hlt⟩ (by omega))
 obtain rfl : k = s.aucs.length := by omega
 have d1 : decide ((s.aucs.length : Int) < (s.aucs.length : Int)) = false := decide_eq_false (by omega)
 repeat' (first | refine y1 sg ?_ | refine y3 ?_ | refine y7 sg H ?_ | (with_reducible first | apply zB | apply zD | apply zC | apply zF | apply zL | apply zS) | refine zA ?_ | refine y24 ?_ | (refine y23 ?_ ?_; all_goals (intro h; try (exfalso; first | ((rw [d1] at h; cases h); done)))) | fail)
 exact zQ rfl H.cl (congrArg (Value.int .i64) hfin.symm)
end Go.Proofs.YtggolnppckpdlaaGreat
set_option linter.unusedSimpArgs false
set_option linter.unusedVariables false
namespace Go.Proofs.YtggolnppckpdlaaGreat
open Go Go.Sk Go.RowKit
attribute [local irreducible] Go.Calls
def zHN (s : Sta) (a q : Nat) : Bool := (zGX s.rows (a : Int) (q : Int)).held == zFM s (a : Int) (q : Int)
def zFN (s : Sta) : Bool := (List.range 65).all fun a => (List.range 17).all fun q => zHN s a q
theorem zFC {s : Sta} : zFN s = true ↔ ∀ a, a < 65 → ∀ q, q < 17 → zHN s a q = true := by
 unfold zFN
 simp only [List.all_eq_true, List.mem_range]
set_option maxHeartbeats 4000000 in
theorem zQv {F : zI} (s : Sta) (p : SPt) (w0 : World) (hF : Mem w0 F) (hs : StaM F s p) :
  Calls Tryz.prog 152 [.agg (s.cells p).toArray].toArray w0 (Ret (.bool (zFN s)) w0) := by
 have nu : (zFN s = true → False) → zFN s = false := fun h => by
  cases e : zFN s
  ·rfl
  ·exact (h e).elim
 refine enter [.tmp 2] Tryz.func152 rfl Tryz.ntmps152 rfl rfl ?_
 have H := zH w0
 repeat' (first | refine y1 sg ?_ | refine y3 ?_ | (refine y9 H ?_; intro b w H) | (with_reducible first | apply zB | apply zD | apply zC | apply zE) | refine zA ?_ | fail)
 refine zK [(2, 23)] (fun k : Nat => [(3, .int .i64 (k : Int))]) (fun k w => St w0 [cb _ (s.cells p) 29] w ∧ k ≤ 65 ∧ ∀ a, a < k → ∀ q, q < 17 → zHN s a q = true) (fun k => 65 - k) 0 ⟨rfl, trivial⟩ ⟨H, Nat.zero_le _, fun j hj => absurd hj (Nat.not_lt_zero j)⟩ ?_
 clear H
 rintro k gh w ⟨H, hk, hno⟩
 by_cases hlt : k < 65
 ·have d1 : decide ((k : Int) ≤ 64) = true := decide_eq_true (by omega)
  repeat' (first | refine y1 sg ?_ | (with_reducible first | apply zB | apply zD | apply zC) | refine zA ?_ | fail)
  refine zM rfl (fun h => ?_) (fun h => absurd d1 (by rw [h]; decide))
  clear h
  repeat' (first | refine y1 sg ?_ | (with_reducible first | apply zB | apply zD | apply zC | apply zE | apply zG) | refine zA ?_ | fail)
  refine zK [(2, 2), (4, 4), (9, 23)] (fun q : Nat => [(4, .int .i64 (q : Int))]) (fun q w => St w0 [cb _ (s.cells p) 29] w ∧ q ≤ 17 ∧ ∀ j, j < q → zHN s k j = true) (fun q => 17 - q) 0 ⟨rfl, trivial⟩ ⟨H, Nat.zero_le _, fun j hj => absurd hj (Nat.not_lt_zero j)⟩ ?_
  clear H
  rintro q gh2 w ⟨H, hq, hqn⟩
  by_cases hql : q < 17
  ·have d2 : decide ((q : Int) ≤ 16) = true := decide_eq_true (by omega)
   have CG := fun w hM => c_RGet (F := F) s.rows (k : Int) (q : Int) w hM hs.rw
   have CH := fun w hM => zMV (F := F) s p (k : Int) (q : Int) w hM hs
   have hc : zHN s k q = ((zGX s.rows (k : Int) (q : Int)).held == zFM s (k : Int) (q : Int)) := rfl
   generalize zFM s (k : Int) (q : Int) = hh at CH hc
   generalize zGX s.rows (k : Int) (q : Int) = gg at CG hc
   repeat' (first | refine y1 sg ?_ | refine y2 sg ?_ | refine y4 ?_ | refine y8 sg H ?_ | (refine' y31 ent199 ?_ ?_; rotate_left; exact (fun _ hcl => CG _ ((H.ext hcl).memF hF))) | (refine' y31 ent200 ?_ ?_; rotate_left; exact (fun _ hcl => CH _ ((H.ext hcl).memF hF))) | (with_reducible first | apply zB | apply zD | apply zC | apply zE | apply zF | apply zG | apply zO | apply zW) | (with_reducible apply zV; intro w hcl; replace H := H.ext hcl; clear hcl) | refine zA ?_ | refine y20 mixed ?_ | (refine y23 ?_ ?_; all_goals (intro h; try (exfalso; first | ((rw [d2] at h; cases h); done)))) | fail)
   all_goals first
    | exact zQ rfl H.cl (congrArg Value.bool (nu fun he => by
      have := zFC.1 he k hlt q hql
      rw [hc] at this
      simp_all).symm)
    | exact zJ (q + 1) rfl ⟨zT (by omega), trivial⟩ ⟨H, hql, fun j hj => by
      by_cases hjk : j = q
      ·subst hjk; rw [hc]; simp_all
      ·exact hqn j (by omega)⟩ (by omega)
    | trace_state
  ·obtain rfl : q = 17 := by omega
   repeat' (first | refine y1 sg ?_ | (with_reducible first | apply zB | apply zD | apply zC | apply zL) | refine zA ?_ | refine y22 ?_ | fail)
   exact zAY (k + 1) rfl ⟨zT (by omega), trivial⟩ ⟨H, hlt, fun j hj => by
    by_cases hjk : j = k
    ·subst hjk; exact hqn
    ·exact hno j (by omega)⟩ (by omega)
 ·obtain rfl : k = 65 := by omega
  repeat' (first | refine y1 sg ?_ | (with_reducible first | apply zB | apply zD | apply zC | apply zF | apply zL | apply zS) | refine zA ?_ | refine y24 ?_ | refine y22 ?_ | fail)
  exact zQ rfl H.cl (congrArg Value.bool (zFC.2 hno).symm)
end Go.Proofs.YtggolnppckpdlaaGreat
set_option linter.unusedSimpArgs false
set_option linter.unusedVariables false
namespace Go.Proofs.YtggolnppckpdlaaGreat
open Go Go.Sk Go.RowKit
attribute [local irreducible] Go.Calls
theorem zFD (ok : Nat → Bool) : zBO ok = if ok 0 = false then zGl 0 else if ok 1 = false then zGl 1 else if ok 2 = false then zGl 2 else if ok 3 = false then zGl 3 else if ok 4 = false then zGl 4 else if ok 5 = false then zGl 5 else if ok 6 = false then zGl 6 else ⟨#[]⟩ := by
 have key : ∀ k, k < 7 → (∀ j, j < k → (!ok j) = false) → ok k = false → zBO ok = zGl k := fun k hlt hn h => by
  unfold zBO
  rw [zA5 hlt hn (by rw [h]; rfl), if_neg (by omega), Int.toNat_natCast]
 have up : ∀ k, (∀ j, j < k → (!ok j) = false) → ¬ ok k = false → ∀ j, j < k + 1 → (!ok j) = false := fun k h g j hj => by
  rcases (show j < k ∨ j = k by omega) with q | rfl
  ·exact h j q
  ·cases e : ok j
   ·exact absurd e g
   ·rfl
 have n0 : ∀ j, j < 0 → (!ok j) = false := fun j hj => absurd hj (Nat.not_lt_zero _)
 split
 ·exact key 0 (by omega) n0 ‹_›
 have n1 := up 0 n0 ‹_›
 split
 ·exact key 1 (by omega) n1 ‹_›
 have n2 := up 1 n1 ‹_›
 split
 ·exact key 2 (by omega) n2 ‹_›
 have n3 := up 2 n2 ‹_›
 split
 ·exact key 3 (by omega) n3 ‹_›
 have n4 := up 3 n3 ‹_›
 split
 ·exact key 4 (by omega) n4 ‹_›
 have n5 := up 4 n4 ‹_›
 split
 ·exact key 5 (by omega) n5 ‹_›
 have n6 := up 5 n5 ‹_›
 split
 ·exact key 6 (by omega) n6 ‹_›
 have n7 := up 6 n6 ‹_›
 unfold zBO
 rw [zAm n7]; rfl
theorem zKS {F : zI} (s : Sta) (p : SPt) (ok : Nat → Bool) (h0 : ok 0 = zDz s)
  (h1 : ∀ w, Mem w F → Calls Tryz.prog 147 [.agg (s.cells p).toArray].toArray w (Ret (.bool (ok 1)) w))
  (h2 : ∀ w, Mem w F → Calls Tryz.prog 148 [.agg (s.cells p).toArray].toArray w (Ret (.bool (ok 2)) w))
  (h3 : ∀ w, Mem w F → Calls Tryz.prog 149 [.agg (s.cells p).toArray].toArray w (Ret (.bool (ok 3)) w))
  (h4 : ∀ w, Mem w F → ok 2 = true → Calls Tryz.prog 150 [.agg (s.cells p).toArray].toArray w (Ret (.bool (ok 4)) w))
  (h5 : ∀ w, Mem w F → Calls Tryz.prog 151 [.agg (s.cells p).toArray].toArray w (Ret (.bool (ok 5)) w))
  (h6 : ∀ w, Mem w F → Calls Tryz.prog 152 [.agg (s.cells p).toArray].toArray w (Ret (.bool (ok 6)) w)) (w0 : World) (hF : Mem w0 F) :
  Calls Tryz.prog 64 [.agg (s.cells p).toArray].toArray w0 (Ret (.string (zBO ok)) w0) := by
 rw [zFD, h0]
 obtain ⟨o1, e1⟩ : ∃ b, ok 1 = b := ⟨_, rfl⟩
 obtain ⟨o2, e2⟩ : ∃ b, ok 2 = b := ⟨_, rfl⟩
 obtain ⟨o3, e3⟩ : ∃ b, ok 3 = b := ⟨_, rfl⟩
 obtain ⟨o4, e4⟩ : ∃ b, ok 4 = b := ⟨_, rfl⟩
 obtain ⟨o5, e5⟩ : ∃ b, ok 5 = b := ⟨_, rfl⟩
 obtain ⟨o6, e6⟩ : ∃ b, ok 6 = b := ⟨_, rfl⟩
 rw [e1] at h1 ⊢
 rw [e2] at h2 h4 ⊢
 rw [e3] at h3 ⊢
 rw [e4] at h4 ⊢
 rw [e5] at h5 ⊢
 rw [e6] at h6 ⊢
 refine enter [.tmp 2] Tryz.func64 rfl Tryz.ntmps64 rfl rfl ?_
 have H := zH w0
 repeat' (first | refine y1 sg ?_ | refine y3 ?_ | refine y5 sg ?_ | refine y7 sg H ?_ | (refine y9 H ?_; intro b w H) | (refine' y30 zFt ?_ ?_; rotate_left; exact zDY s.clock 0 1099511627776 _; intro w hcl; replace H := H.ext hcl; clear hcl) | (refine' y30 zFt ?_ ?_; rotate_left; exact zDY s.fee 0 1000 _; intro w hcl; replace H := H.ext hcl; clear hcl) | (refine' y30 zFt ?_ ?_; rotate_left; exact zDY s.nextO 1 1099511627777 _; intro w hcl; replace H := H.ext hcl; clear hcl) | (refine' y30 zFt ?_ ?_; rotate_left; exact zDY s.nextA 1 1099511627777 _; intro w hcl; replace H := H.ext hcl; clear hcl) | (refine' y30 ent147 ?_ ?_; rotate_left; exact h1 _ (H.memF hF); intro w hcl; replace H := H.ext hcl; clear hcl) | (refine' y30 ent148 ?_ ?_; rotate_left; exact h2 _ (H.memF hF); intro w hcl; replace H := H.ext hcl; clear hcl) | (refine' y30 ent149 ?_ ?_; rotate_left; exact h3 _ (H.memF hF); intro w hcl; replace H := H.ext hcl; clear hcl) | (refine' y30 ent150 ?_ ?_; rotate_left; exact h4 _ (H.memF hF) (by simp only [Bool.not_eq_false'] at *; assumption); intro w hcl; replace H := H.ext hcl; clear hcl) | (refine' y30 ent151 ?_ ?_; rotate_left; exact h5 _ (H.memF hF); intro w hcl; replace H := H.ext hcl; clear hcl) | (refine' y30 ent152 ?_ ?_; rotate_left; exact h6 _ (H.memF hF); intro w hcl; replace H := H.ext hcl; clear hcl) | refine y13 ?_ | refine y14 ?_ | (refine y17 ?_ ?_; all_goals intro h) | (with_reducible first | apply zB | apply zD | apply zC | apply zF | apply zG | apply zO) | refine zA ?_ | refine y21 ?_ | (refine y23 ?_ ?_; all_goals intro h) | fail)
 all_goals simp only [Bool.not_eq_true', Bool.not_eq_false'] at *
 all_goals exact zQ rfl H.cl (congrArg Value.string (by unfold zDz; simp only [*, Bool.true_and, Bool.and_true, Bool.false_and, Bool.and_false, if_true, if_false, reduceIte, Bool.true_eq_false]; (try rfl)))
end Go.Proofs.YtggolnppckpdlaaGreat
