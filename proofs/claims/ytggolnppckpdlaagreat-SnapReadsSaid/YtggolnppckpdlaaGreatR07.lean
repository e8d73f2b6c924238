/- Texts of ours, joined: the steps of the proof, or the claim's theorem. -/
import Derived.ChangeKeysEq
import Derived.Test.YtggolnppckpdlaaGreatR04
import Derived.Test.YtggolnppckpdlaaGreatR06
set_option linter.unusedSimpArgs false
set_option linter.unusedVariables false
namespace Go.Proofs.YtggolnppckpdlaaGreat
open Go Go.Sk Go.RowKit
attribute [local irreducible] Go.Calls
def zFz (n m : Int) : Bool := decide (1 ≤ n) && decide (n ≤ m)
theorem c_betw (n m : Int) (w : World) : Calls Tryz.prog 295 [.int .i64 n, .int .i64 m].toArray w (Ret (.bool (zFz n m)) w) := by
 refine enter [.tmp 4] Tryz.func295 rfl Tryz.ntmps295 rfl rfl ?_
 have H := zH w
 repeat' (first | refine y1 sg ?_ | refine y5 sg ?_ | refine y13 ?_ | refine y14 ?_ | (refine y17 ?_ ?_; all_goals intro h) | (with_reducible first | apply zB | apply zD | apply zC | apply zF) | refine zA ?_ | fail)
 all_goals simp only [decide_eq_true_eq, decide_eq_false_iff_not, ge_iff_le] at *
 all_goals exact zQ rfl H.cl (congrArg Value.bool (by unfold zFz; simp only [*, decide_true, decide_false, Bool.true_and, Bool.and_true, Bool.false_and, Bool.and_false]))
theorem zPH (n m : Int) (w : World) : Calls Tryz.prog 296 [.int .i64 n, .int .i64 m].toArray w (Ret (.bool (zFz n m)) w) := by
 refine enter [.tmp 4] Tryz.func296 rfl Tryz.ntmps296 rfl rfl ?_
 have H := zH w
 repeat' (first | refine y1 sg ?_ | refine y5 sg ?_ | refine y13 ?_ | refine y14 ?_ | (refine y17 ?_ ?_; all_goals intro h) | (with_reducible first | apply zB | apply zD | apply zC | apply zF) | refine zA ?_ | fail)
 all_goals simp only [decide_eq_true_eq, decide_eq_false_iff_not, ge_iff_le] at *
 all_goals exact zQ rfl H.cl (congrArg Value.bool (by unfold zFz; simp only [*, decide_true, decide_false, Bool.true_and, Bool.and_true, Bool.false_and, Bool.and_false]))
def zAM (o : Odr) : Bool := zFz o.id 1099511627776 && zFz o.acct 64 && zFz o.inst 16 && (o.side == 1 || o.side == 2) && zFz o.price 1073741824 && zFz o.left 1048576
theorem zNR (n m : Int) : zFz n m = true ↔ (1 ≤ n ∧ n ≤ m) := by simp [zFz]
def zBn (o : Odr) : Prop := (1 ≤ o.id ∧ o.id ≤ 1099511627776) ∧ (1 ≤ o.acct ∧ o.acct ≤ 64) ∧ (1 ≤ o.inst ∧ o.inst ≤ 16) ∧ (o.side = 1 ∨ o.side = 2) ∧ (1 ≤ o.price ∧ o.price ≤ 1073741824) ∧ (1 ≤ o.left ∧ o.left ≤ 1048576)
theorem zBJ (o : Odr) : zAM o = true ↔ zBn o := by
 unfold zAM zBn
 simp only [Bool.and_eq_true, Bool.or_eq_true, zNR, beq_iff_eq, and_assoc]
theorem zIO (o : Odr) (w0 : World) : Calls Tryz.prog 279 [.agg o.cells.toArray].toArray w0 (Ret (.bool (zAM o)) w0) := by
 refine enter [.tmp 2] Tryz.func279 rfl Tryz.ntmps279 rfl rfl ?_
 have H := zH w0
 repeat' (first | refine y1 sg ?_ | refine y3 ?_ | refine y5 sg ?_ | refine y7 sg H ?_ | (refine y9 H ?_; intro b w H) | (refine' y30 ent296 ?_ ?_; rotate_left; exact zPH _ _ _; intro w hcl; replace H := H.ext hcl; clear hcl) | (refine' y30 ent295 ?_ ?_; rotate_left; exact c_betw _ _ _; intro w hcl; replace H := H.ext hcl; clear hcl) | refine y13 ?_ | refine y14 ?_ | (refine y17 ?_ ?_; all_goals intro h) | (with_reducible first | apply zB | apply zD | apply zC | apply zF) | refine zA ?_ | fail)
 all_goals exact zQ rfl H.cl (congrArg Value.bool (by unfold zAM; simp only [*, Bool.true_and, Bool.and_true, Bool.false_and, Bool.and_false, Bool.true_or, Bool.false_or, Bool.or_true, Bool.or_false]))
theorem zEx (o : Odr) (w0 : World) : Calls Tryz.prog 227 [.agg o.cells.toArray].toArray w0 (Ret (.bool (zAM o)) w0) := by
 have hp := zBJ o
 have no : ¬ zBn o → false = zAM o := fun h => by
  cases hq : zAM o with
  | false => rfl
  | true => exact absurd (hp.1 hq) h
 refine enter [.tmp 2] Tryz.func227 rfl Tryz.ntmps227 rfl rfl ?_
 have H := zH w0
 repeat' (first | refine y1 sg ?_ | refine y3 ?_ | refine y5 sg ?_ | refine y7 sg H ?_ | (refine y9 H ?_; intro b w H) | refine y13 ?_ | refine y14 ?_ | (refine y17 ?_ ?_; all_goals intro h) | (with_reducible first | apply zB | apply zD | apply zC | apply zF) | refine zA ?_ | fail)
 all_goals simp only [decide_eq_true_eq, decide_eq_false_iff_not, ge_iff_le, beq_iff_eq, beq_eq_false_iff_ne, ne_eq, Int.not_le] at *
 all_goals first
  | exact zQ rfl H.cl (congrArg Value.bool (no (by unfold zBn; omega)))
  | exact zQ rfl H.cl (congrArg Value.bool (hp.2 (by unfold zBn; omega)).symm)
  | (by_cases hl : o.left ≤ 1048576
     ·exact zQ rfl H.cl (congrArg Value.bool ((decide_eq_true hl).trans (hp.2 (by unfold zBn; omega)).symm))
     ·exact zQ rfl H.cl (congrArg Value.bool ((decide_eq_false hl).trans (no (by unfold zBn; omega)))))
def zNS (l : List Odr) (k : Nat) : Bool := !zAM (od_ l k) || (decide (0 < k) && decide ((od_ l k).id ≤ (od_ l (k - 1)).id))
def zAr (l : List Odr) : Bool := decide (l.length ≤ 128) && (List.range l.length).all fun k => !zNS l k
def Ords (F : zI) (a : Option Addr) (cap : Nat) (l : List Odr) : Prop := SlA F 6 a l.length cap (odl l)
def OrdP (l : List Odr) (k : Nat) : Prop := ∀ j, j < k → zBn (od_ l j) ∧ (j = 0 ∨ (od_ l (j - 1)).id < (od_ l j).id)
theorem zGu {l : List Odr} {k : Nat} : zNS l k = false ↔ zBn (od_ l k) ∧ (k = 0 ∨ (od_ l (k - 1)).id < (od_ l k).id) := by
 unfold zNS
 rw [Bool.or_eq_false_iff, Bool.not_eq_false', zBJ]
 simp only [Bool.and_eq_false_iff, decide_eq_false_iff_not]
 exact and_congr_right fun _ => by omega
theorem zBK {l : List Odr} : zAr l = true ↔ l.length ≤ 128 ∧ OrdP l l.length := by
 unfold zAr OrdP
 rw [Bool.and_eq_true, decide_eq_true_eq, List.all_eq_true]
 simp only [List.mem_range, Bool.not_eq_true', zGu]
theorem OrdP.succ {l : List Odr} {k : Nat} (h : OrdP l k) (h1 : zBn (od_ l k)) (h2 : k = 0 ∨ (od_ l (k - 1)).id < (od_ l k).id) : OrdP l (k + 1) := fun j hj => by
 rcases (show j < k ∨ j = k by omega) with g | rfl
 ·exact h j g
 ·exact ⟨h1, h2⟩
theorem zF0 {l : List Odr} (h : zAr l = true → False) : false = zAr l := by
 cases hq : zAr l with
 | false => rfl
 | true => exact (h hq).elim
set_option maxHeartbeats 4000000 in
theorem zLg {a : Option Addr} {cap : Nat} (l : List Odr) {F : zI} (w0 : World) (hF : Mem w0 F) (hs : Ords F a cap l) :
  Calls Tryz.prog 196 [.slice a l.length cap].toArray w0 (Ret (.bool (zAr l)) w0) := by
 obtain ⟨hnc, hcb, b0, off, cs, T, fr, hs⟩ := hs
 refine enter [.tmp 2] Tryz.func196 rfl Tryz.ntmps196 rfl rfl ?_
 have H := zH w0
 repeat' (first | refine y1 sg ?_ | (with_reducible first | apply zB | apply zD | apply zC | apply zE) | refine zA ?_ | fail)
 refine zK [(2, 37)] (fun k : Nat => [(3, .int .i64 (k : Int))]) (fun k w => k ≤ l.length ∧ k ≤ 128 ∧ OrdP l k ∧ St w0 [] w) (fun k => l.length - k) 0 ⟨rfl, trivial⟩ ⟨Nat.zero_le _, Nat.zero_le _, fun j hj => absurd hj (Nat.not_lt_zero _), H⟩ ?_
 clear H
 rintro k gh w ⟨hk, hk2, hP, H⟩
 repeat' (first | refine y1 sg ?_ | (with_reducible first | apply zB | apply zD | apply zC) | refine zA ?_ | fail)
 refine zM rfl (fun h => ?_) (fun h => ?_)
 ·have hlt : k < l.length := by have := of_decide_eq_true h; omega
  clear h
  have hm := zBJ (od_ l k)
  have hfacts : zAr l = true → k < 128 ∧ zAM (od_ l k) = true ∧ (k = 0 ∨ (od_ l (k - 1)).id < (od_ l k).id) := fun q => by
   obtain ⟨g, o⟩ := zBK.1 q
   exact ⟨by omega, hm.2 (o k hlt).1, (o k hlt).2⟩
  rcases k with _ | j
  ·repeat' (first | refine y1 sg ?_ | refine y2 sg ?_ | refine y6 sg ?_ | (refine y41 sg (hs) ?_ ?_ ?_; (omega); (omega)) | (refine y43 sg (hs) ((H.memF hF)) ?_ ?_; (omega)) | (refine' y31 zJS ?_ ?_; rotate_left; exact (fun _ hcl => zEx (od_ l 0) _)) | refine y15 ?_ | refine y16 ?_ | (refine y18 ?_ ?_; all_goals intro h) | (with_reducible first | apply zB | apply zD | apply zC | apply zE | apply zF | apply zG | apply zO | apply zW) | (with_reducible apply zV; intro w hcl; replace H := H.ext hcl; clear hcl) | refine zA ?_ | refine y20 mixed ?_ | refine y21 ?_ | refine y22 ?_ | fail)
   all_goals simp only [Bool.not_eq_true', Bool.not_eq_false', decide_eq_true_eq, decide_eq_false_iff_not] at *
   all_goals first
    | exact zQ rfl H.cl (congrArg Value.bool (zF0 fun q => by
      obtain ⟨g1, g2, g3⟩ := hfacts q
      first | omega | (cases g2.symm.trans ‹zAM _ = false›)))
    | exact zJ (0 + 1) rfl ⟨zT (by omega), trivial⟩ ⟨hlt, by omega, hP.succ (hm.1 ‹_›) (.inl rfl), H⟩ (by omega)
    | (exfalso; omega)
  ·have hpos : decide (((j + 1 : Nat) : Int) > 0) = true := decide_eq_true (by omega)
   repeat' (first | refine y1 sg ?_ | refine y2 sg ?_ | refine y6 sg ?_ | (refine y41 sg (hs) ?_ ?_ ?_; (first | omega | (rw [w64 (by omega) (by omega)]; omega)); (first | omega | (rw [w64 (by omega) (by omega)]; omega))) | (refine y43 sg (hs) ((H.memF hF)) ?_ ?_; (omega)) | (refine y45 sg (hs) ((H.memF hF)) ?_ ?_; (omega)) | (refine' y31 zJS ?_ ?_; rotate_left; exact (fun _ hcl => zEx (od_ l (j + 1)) _)) | refine y15 ?_ | refine y16 ?_ | (refine y18 ?_ ?_; all_goals (intro h; try (exfalso; first | ((rw [hpos] at h; cases h); done)))) | (with_reducible first | apply zB | apply zD | apply zC | apply zE | apply zF | apply zG | apply zO | apply zW) | (with_reducible apply zV; intro w hcl; replace H := H.ext hcl; clear hcl) | refine zA ?_ | refine y20 mixed ?_ | refine y21 ?_ | (refine y23 ?_ ?_; all_goals (intro h; try (exfalso; first | ((rw [hpos] at h; cases h); done)))) | fail)
   all_goals clear hpos
   all_goals simp only [Bool.not_eq_true', Bool.not_eq_false', decide_eq_true_eq, decide_eq_false_iff_not] at *
   all_goals first
    | exact zQ rfl H.cl (congrArg Value.bool (zF0 fun q => by
      obtain ⟨g1, g2, g3⟩ := hfacts q
      first | omega | (cases g2.symm.trans ‹zAM _ = false›)))
    | exact zJ (j + 1 + 1) rfl ⟨zT (by omega), trivial⟩ ⟨hlt, by omega, hP.succ (hm.1 ‹_›) (.inr (by omega)), H⟩ (by omega)
    | (exfalso; omega)
 ·obtain rfl : k = l.length := by have := of_decide_eq_false h; omega
  repeat' (first | refine y1 sg ?_ | (with_reducible first | apply zB | apply zD | apply zC | apply zF | apply zL | apply zS) | refine zA ?_ | refine y24 ?_ | fail)
  exact zQ rfl H.cl (congrArg Value.bool (zBK.2 ⟨hk2, hP⟩).symm)
end Go.Proofs.YtggolnppckpdlaaGreat
set_option linter.unusedSimpArgs false
set_option linter.unusedVariables false
namespace Go.Proofs.YtggolnppckpdlaaGreat
open Go Go.Sk Go.RowKit
attribute [local irreducible] Go.Calls
theorem zNT {p q : Int} (h1 : 1 ≤ p) (h2 : p ≤ 1073741824) (h3 : 1 ≤ q) (h4 : q ≤ 1048576) : 1 ≤ p * q ∧ p * q ≤ 1125899906842624 := by
 have a := Int.mul_le_mul h1 h3 (by omega) (by omega)
 have b := Int.mul_le_mul h2 h4 (by omega) (by omega)
 constructor <;> omega
def zA1 (o : Odr) : Int × Int := if zAM o = true then (if o.side = 1 then (0, o.price * o.left) else (o.inst, o.left)) else (0, 0)
theorem zPI (o : Odr) (w0 : World) : Calls Tryz.prog 286 [.agg o.cells.toArray].toArray w0 (Ret (.tuple #[.int .i64 (zA1 o).1, .int .i64 (zA1 o).2]) w0) := by
 have hp := zBJ o
 refine enter [.tmp 2, .tmp 3] Tryz.func286 rfl Tryz.ntmps286 rfl rfl ?_
 have H := zH w0
 repeat' (first | refine y1 sg ?_ | refine y2 sg ?_ | refine y3 ?_ | refine y4 ?_ | refine y7 sg H ?_ | refine y8 sg H ?_ | (refine y9 H ?_; intro b w H) | (refine' y30 zM9 ?_ ?_; rotate_left; exact zIO o _; intro w hcl; replace H := H.ext hcl; clear hcl) | (with_reducible first | apply zB | apply zD | apply zC | apply zE | apply zF | apply zG | apply zO | apply zDL | apply zW) | (with_reducible apply zV; intro w hcl; replace H := H.ext hcl; clear hcl) | refine zA ?_ | refine y20 mixed ?_ | (refine y23 ?_ ?_; all_goals intro h) | fail)
 all_goals simp only [Bool.not_eq_true', Bool.not_eq_false', beq_iff_eq, beq_eq_false_iff_ne, ne_eq] at *
 all_goals first
  | (have hm : ¬ zAM o = true := by rw [‹zAM o = false›]; decide
     exact zCO rfl rfl H.cl (by unfold zA1; rw [if_neg hm]))
  | (have hm := ‹zAM o = true›
     obtain ⟨_, _, _, _, ⟨q1, q2⟩, q3, q4⟩ := hp.1 hm
     obtain ⟨b1, b2⟩ := zNT q1 q2 q3 q4
     refine zCO rfl rfl H.cl ?_
     unfold zA1
     rw [if_pos hm]
     first
      | (rw [if_pos ‹_›, w64 (by omega) (by omega)])
      | rw [if_neg ‹_›])
theorem zNU (o : Odr) (w0 : World) : Calls Tryz.prog 229 [.agg o.cells.toArray].toArray w0 (Ret (.tuple #[.int .i64 (zA1 o).1, .int .i64 (zA1 o).2]) w0) := by
 have hp := zBJ o
 refine enter [.tmp 2, .tmp 3] Tryz.func229 rfl Tryz.ntmps229 rfl rfl ?_
 have H := zH w0
 repeat' (first | refine y1 sg ?_ | refine y2 sg ?_ | refine y3 ?_ | refine y4 ?_ | refine y7 sg H ?_ | refine y8 sg H ?_ | (refine y9 H ?_; intro b w H) | (refine' y30 zJS ?_ ?_; rotate_left; exact zEx o _; intro w hcl; replace H := H.ext hcl; clear hcl) | (with_reducible first | apply zB | apply zD | apply zC | apply zF | apply zG | apply zO) | (with_reducible apply zV; intro w hcl; replace H := H.ext hcl; clear hcl) | refine zA ?_ | refine y20 mixed ?_ | (refine y23 ?_ ?_; all_goals intro h) | fail)
 all_goals simp only [Bool.not_eq_true', Bool.not_eq_false', beq_iff_eq, beq_eq_false_iff_ne, ne_eq] at *
 all_goals first
  | (have hm : ¬ zAM o = true := by rw [‹zAM o = false›]; decide
     exact zCO rfl rfl H.cl (by unfold zA1; rw [if_neg hm]))
  | (have hm := ‹zAM o = true›
     obtain ⟨_, _, _, _, ⟨q1, q2⟩, q3, q4⟩ := hp.1 hm
     obtain ⟨b1, b2⟩ := zNT q1 q2 q3 q4
     refine zCO rfl rfl H.cl ?_
     unfold zA1
     rw [if_pos hm]
     first
      | (rw [if_pos ‹_›, w64 (by omega) (by omega)])
      | rw [if_neg ‹_›])
theorem c_byID (x y : Odr) (w0 : World) : Calls Tryz.prog 280 [.agg x.cells.toArray, .agg y.cells.toArray].toArray w0 (Ret (.int .i64 (zEv x.id y.id)) w0) := by
 refine enter [.tmp 4] Tryz.func280 rfl Tryz.ntmps280 rfl rfl ?_
 have H := zH w0
 repeat' (first | refine y1 sg ?_ | refine y3 ?_ | refine y7 sg H ?_ | (refine y9 H ?_; intro b w H) | (refine' y30 zJR ?_ ?_; rotate_left; exact zEw _ _ _; intro w hcl; replace H := H.ext hcl; clear hcl) | (with_reducible first | apply zB | apply zD | apply zC | apply zF) | refine zA ?_ | fail)
 exact zQ rfl H.cl rfl
theorem zPJ (o : Odr) (w0 : World) : Calls Tryz.prog 278 [.agg o.cells.toArray].toArray w0 (Ret (.bool (!zAM o)) w0) := by
 refine enter [.tmp 2] Tryz.func278 rfl Tryz.ntmps278 rfl rfl ?_
 have H := zH w0
 repeat' (first | refine y1 sg ?_ | refine y3 ?_ | refine y7 sg H ?_ | (refine y9 H ?_; intro b w H) | (refine' y30 zM9 ?_ ?_; rotate_left; exact zIO o _; intro w hcl; replace H := H.ext hcl; clear hcl) | (with_reducible first | apply zB | apply zD | apply zC | apply zF) | refine zA ?_ | fail)
 exact zQ rfl H.cl rfl
theorem zPK (x y : Int) : decide (zEv x y ≥ 0) = decide (y ≤ x) := by
 unfold zEv
 split
 ·simp; omega
 ·split <;> simp <;> omega
set_option maxHeartbeats 4000000 in
theorem zNV {a : Option Addr} {cap : Nat} (l : List Odr) {F : zI} (w0 : World) (hF : Mem w0 F) (hs0 : Ords F a cap l) :
  Calls Tryz.prog 240 [.slice a l.length cap].toArray w0 (Ret (.bool (zAr l)) w0) := by
 obtain ⟨hnc, hcb, b0, off, cs, T, fr, hs⟩ := id hs0
 have cont : ∀ {w : World}, Mem w F → Calls Tryz.prog 241 [.slice a l.length cap, .func (.func 278) #[] #[]].toArray w (Ret (.bool (decide (idx (fun j => !zAM (od_ l j)) l.length ≥ 0))) w) := fun hF =>
  zDv (caps := []) (fun j => !zAM (od_ l j)) _ hF hs0 ent278 (fun j _ w _ => zPJ (od_ l j) w)
 have hno : idx (fun j => !zAM (od_ l j)) l.length ≥ 0 → zAr l = true → False := fun h q => by
  rcases z7 (fun j => !zAM (od_ l j)) l.length with ⟨k, hk, _, hb, _⟩ | ⟨_, hx⟩
  ·have := ((zBK.1 q).2 k hk).1
   rw [(zBJ _).2 this] at hb; cases hb
  ·omega
 have hyes : ¬ idx (fun j => !zAM (od_ l j)) l.length ≥ 0 → ∀ j, j < l.length → zBn (od_ l j) := fun h j hj => by
  rcases z7 (fun j => !zAM (od_ l j)) l.length with ⟨k, _, _, _, hx⟩ | ⟨ha, _⟩
  ·omega
  ·have := ha j hj
   exact (zBJ _).1 (by simpa using this)
 refine enter [.tmp 2] Tryz.func240 rfl Tryz.ntmps240 rfl rfl ?_
 have H := zH w0
 repeat' (first | refine y1 sg ?_ | refine y5 sg ?_ | (refine' y30 zM4 ?_ ?_; rotate_left; exact cont (H.memF hF); intro w hcl; replace H := H.ext hcl; clear hcl) | refine y13 ?_ | refine y14 ?_ | (refine y17 ?_ ?_; all_goals intro h) | (with_reducible first | apply zB | apply zD | apply zC | apply zF | apply zO) | refine zA ?_ | refine y21 ?_ | fail)
 ·exact zQ rfl H.cl (congrArg Value.bool (zF0 fun q => by have := (zBK.1 q).1; have := of_decide_eq_true h; omega))
 have h128 : l.length ≤ 128 := by have := of_decide_eq_false h; omega
 refine zM rfl (fun h2 => ?_) (fun h2 => ?_)
 ·repeat' (first | refine y1 sg ?_ | (with_reducible first | apply zB | apply zD | apply zC | apply zF | apply zO) | refine zA ?_ | fail)
  exact zQ rfl H.cl (congrArg Value.bool (zF0 (hno (of_decide_eq_true h2))))
 have hall := hyes (of_decide_eq_false h2)
 clear hno hyes cont h h2
 have hmin : (if ((l.length : Nat) : Int) < 1 then ((l.length : Nat) : Int) else 1) = ((min 1 l.length : Nat) : Int) := by split <;> omega
 repeat' (first | refine y1 sg ?_ | refine y3 ?_ | (with_reducible first | apply zD | apply zC | apply zG) | refine zA ?_ | fail)
 rw [hmin]
 repeat' (first | refine y1 sg ?_ | (refine zY rfl rfl (Yq.sliceLo sg rfl rfl rfl rfl rfl rfl (Int.toNat_natCast _) (by omega) (by omega)) ?_) | (with_reducible first | apply zB | apply zD | apply zE) | fail)
 refine zK [(2, 3), (17, 31)] (fun k : Nat => [(17, .int .i64 (k : Int))]) (fun k w => k ≤ l.length - min 1 l.length ∧ OrdP l (k + min 1 l.length) ∧ St w0 [] w) (fun k => l.length - k) 0 ⟨rfl, trivial⟩ ⟨Nat.zero_le _, fun j hj => ⟨hall j (by omega), .inl (by omega)⟩, H⟩ ?_
 clear H
 rintro k gh w ⟨hk, hP, H⟩
 repeat' (first | refine y1 sg ?_ | (with_reducible first | apply zB | apply zD | apply zC) | refine zA ?_ | fail)
 refine zM rfl (fun h => ?_) (fun h => ?_)
 ·have hlt : k + 1 < l.length := by have := of_decide_eq_true h; omega
  clear h
  have hm1 : min 1 l.length = 1 := by omega
  rw [hm1] at hP
  have hq : IntKind.i64.wrap ((k : Int) + 1) = ((k + 1 : Nat) : Int) := by rw [w64 (by omega) (by omega)]; omega
  repeat' (first | refine y1 sg ?_ | refine y2 sg ?_ | refine y4 ?_ | (refine zo rfl rfl (zAK sg hs rfl rfl rfl rfl rfl rfl rfl ((congrArg Int.toNat hq).trans (Int.toNat_natCast _)) (by rw [hq]; omega) (by rw [hq]; omega)) ?_) | (refine y41 sg (hs) ?_ ?_ ?_; (omega); (omega)) | (refine y43 sg (hs) ((H.memF hF)) ?_ ?_; (omega)) | (refine' y31 ent280 ?_ ?_; rotate_left; exact (fun _ hcl => c_byID (od_ l k) (od_ l (k + 1)) _)) | (with_reducible first | apply zB | apply zD | apply zC | apply zE | apply zG) | (with_reducible apply zV; intro w hcl; replace H := H.ext hcl; clear hcl) | refine zA ?_ | refine y20 mixed ?_ | fail)
  rw [zPK]
  refine zM rfl (fun h => ?_) (fun h => ?_)
  ·repeat' (first | refine y1 sg ?_ | (with_reducible first | apply zB | apply zD | apply zC | apply zF | apply zO | apply zW) | refine zA ?_ | fail)
   exact zQ rfl H.cl (congrArg Value.bool (zF0 fun q => by
    have := ((zBK.1 q).2 (k + 1) hlt).2
    have h := of_decide_eq_true h
    rw [Nat.add_sub_cancel] at this
    omega))
  ·have h := of_decide_eq_false h
   repeat' (first | refine y1 sg ?_ | (with_reducible first | apply zB | apply zD | apply zG) | refine zA ?_ | fail)
   refine zJ (k + 1) rfl ⟨zT (by omega), trivial⟩ ⟨by omega, ?_, H⟩ (by omega)
   rw [hm1]
   exact hP.succ (hall _ hlt) (.inr (by rw [Nat.add_sub_cancel]; omega))
 ·have hkn : k + min 1 l.length = l.length := by have := of_decide_eq_false h; omega
  rw [hkn] at hP
  repeat' (first | refine y1 sg ?_ | (with_reducible first | apply zB | apply zD | apply zC | apply zF | apply zL | apply zS) | refine zA ?_ | refine y24 ?_ | fail)
  exact zQ rfl H.cl (congrArg Value.bool (zBK.2 ⟨h128, hP⟩).symm)
end Go.Proofs.YtggolnppckpdlaaGreat
namespace Go.Sk
open Go Go.RowKit
section
attribute [local semireducible] Yq OX OW QX QW RA
variable {P : Program} (S : Sig P) {o : Oper} {e : Env} {w : World}
theorem Yq.ixP {t E : TypeId} {x i : Operand} {b off n j : Nat} {k : IntKind} {q : Int} {ti te : TI} (hj : q.toNat = j) (h0 : 0 ≤ q) (h1 : q < n) (ho : o.op = .indexAddr t x i)
  (hx : ev e x = .pointer (some ⟨b, off, none⟩)) (hi : ev e i = .int k q) (ht : lk S.tab t = some ti) (htd : ti.d = .array n E) (he : lk S.tab E = some te) : Yq P o e w (.pointer (some ⟨b, off + j * te.size, none⟩)) := by
 intro w' _
 have hu := S.run_und ht w'
 rw [htd] at hu
 simp only [execOp, ho, Instr.indexAt, hx, hi, asIntOf, hu, Instr.sureAddr, Sem.run_bind, Sem.run_pure, Result.andThen_ok, h0, h1, and_self, if_true, S.run_size he, zBl, hj]
def cellsOf (el : Nat → List Value) (n : Nat) : List Value := (List.range n).flatMap el
theorem zLh {t E : TypeId} {ti te : TI} {n : Nat} {q : IntKind} (ht : lk S.tab t = some ti) (htd : ti.d = .array n E) (he : lk S.tab E = some te) (hed : te.d = .int q) (hsz : te.size = 1) {k : IntKind} (f g : Nat → Int) (w : World) :
  (Op.equalIn 10000 t (.agg ((List.range n).map fun j => Value.int k (f j)).toArray) (.agg ((List.range n).map fun j => Value.int k (g j)).toArray)).run P w = .ok ((List.range n).all fun j => f j == g j) w := by
 have hu := S.run_und ht w
 rw [htd] at hu
 have hs := S.run_size he w
 rw [hsz] at hs
 have hue := S.und he
 rw [hed] at hue
 obtain ⟨fi, hf1, hf2, _⟩ := S.inf he
 have hc : P.cellsOf E = 1 := by unfold Program.cellsOf; rw [hf1]; simp [hf2, hsz]
 have hut := S.und ht
 rw [htd] at hut
 rw [show (10000 : Nat) = 9999 + 1 from rfl, run_equalIn_array w 9999 _ _ hut hf1, hc]
 have hp : ∀ (h : Nat → Int) (i : Nat), i < n → (part E ((List.range n).map fun j => Value.int k (h j)).toArray (i * 1)).run P w = .ok (.int k (h i)) w := fun h i hi =>
  zC2 S he _ _ (by rw [show zBF te.d = false by rw [hed]; rfl]; simp [hi]) w
 have hE : ∀ i, (Op.equalIn 9999 E (.int k (f i)) (.int k (g i))).run P w = .ok (f i == g i) w := fun i => run_equalIn_int w 9998 E _ _ _ _ hue
 have key : ∀ (is : List Nat), (∀ i ∈ is, i < n) → (Op.eqItems 9999 E 1 ((List.range n).map fun j => Value.int k (f j)).toArray ((List.range n).map fun j => Value.int k (g j)).toArray is).run P w = .ok (is.all fun j => f j == g j) w := by
  intro is
  induction is with
  | nil => intro _; rfl
  | cons i is ih =>
    intro hi
    have ih := ih fun x hx => hi x (List.mem_cons_of_mem _ hx)
    have h0 := hi i (List.Mem.head _)
    simp only [Op.eqItems, Sem.run_bind, hp f i h0, hp g i h0, hE, Result.andThen_ok, List.all_cons]
    by_cases hfg : f i = g i
    ·simpa [hfg] using ih
    ·simp [hfg]
 exact key _ fun i hi => List.mem_range.1 hi
theorem Yq.build0 {t E : TypeId} {n : Nat} {ti te : TI} (ho : o.op = .build t #[]) (ht : lk S.tab t = some ti) (htd : ti.d = .array n E) (he : lk S.tab E = some te) : Yq P o e w (.agg ti.zero.toArray) := by
 intro w' _
 have hu := S.run_und ht w'
 rw [htd] at hu
 obtain ⟨f, h1, _, h3⟩ := S.inf ht
 obtain ⟨zv, hz1, hz2⟩ := Option.map_eq_some_iff.1 h3
 have hzv : (zeroValue t).run P w' = .ok zv w' := by simp [zeroValue, typeInfo, h1, hz1]
 simp [execOp, ho, Instr.build, hu, hzv, hz2, S.run_size he, Instr.fill]
def zAN (k : IntKind) (n : Nat) (f : Nat → Int) : List Value := (List.range n).map fun j => Value.int k (f j)
theorem zAi (k : IntKind) (n : Nat) (f : Nat → Int) : (zAN k n f).length = n := by simp [zAN]
theorem zEX {k : IntKind} {n j : Nat} (f : Nat → Int) (h : j < n) : (zAN k n f)[j]? = some (.int k (f j)) := by simp [zAN, h]
def zEB (f : Nat → Int) (j : Nat) (v : Int) : Nat → Int := fun i => if i = j then v else f i
theorem zPL {k : IntKind} {n j : Nat} (f : Nat → Int) (v : Int) (h : j < n) : wr (zAN k n f) (0 + j * 1) [.int k v] = zAN k n (zEB f j v) := by
 apply List.ext_getElem?
 intro i
 rw [zD6 (by rw [zAi]; simp; omega)]
 simp only [List.length_singleton, Nat.mul_one, Nat.zero_add]
 by_cases hi : i = j
 ·subst hi
  rw [if_pos (by omega), zEX _ h, Nat.sub_self]
  simp [zEB]
 ·rw [if_neg (by omega)]
  rcases Nat.lt_or_ge i n with g | g
  ·rw [zEX _ g, zEX _ g]; simp [zEB, hi]
  ·rw [List.getElem?_eq_none (by rw [zAi]; exact g), List.getElem?_eq_none (by rw [zAi]; exact g)]
theorem Yq.loadA {M : zI} {t : TypeId} {x : Operand} {b n j : Nat} {T : TypeId} {k : IntKind} {f : Nat → Int} {ti : TI} (hM : Mem w M) (hm : cb b (zAN k n f) T ∈ M) (hj : j < n) (ho : o.op = .load t x) (hx : ev e x = .pointer (some ⟨b, 0 + j * 1, none⟩)) (ht : lk S.tab t = some ti) (hag : zBF ti.d = false) : Yq P o e w (.int k (f j)) := by
 refine Yq.load S ho hx hM hm ht ?_
 unfold ldv
 rw [hag]
 simp only [cond_false]
 rw [Nat.mul_one, Nat.zero_add]
 exact zEX f hj
theorem Yq.loadW {M : zI} {t : TypeId} {x : Operand} {b n : Nat} {T : TypeId} {k : IntKind} {f : Nat → Int} {ti : TI} (hM : Mem w M) (hm : cb b (zAN k n f) T ∈ M) (ho : o.op = .load t x) (hx : ev e x = .pointer (some ⟨b, 0, none⟩)) (ht : lk S.tab t = some ti) (hag : zBF ti.d = true) (hsz : ti.size = n) : Yq P o e w (.agg (zAN k n f).toArray) := by
 refine Yq.load S ho hx hM hm ht ?_
 unfold ldv
 rw [hag, hsz]
 have : Nat.ble (0 + n) (zAN k n f).length = true := by rw [zAi]; simp
 rw [this]
 simp only [cond_true, List.drop_zero]
 rw [List.take_of_length_le (by rw [zAi]; exact Nat.le_refl _)]
theorem Yq.eqlA {t E : TypeId} {x y : Operand} {yT : TypeId} {n : Nat} {k q : IntKind} {f g : Nat → Int} {ti te : TI} (eg : P.eqGuardType P.depth t = false) (hx : ev e x = .agg (zAN k n f).toArray) (hy : ev e y = .agg (zAN k n g).toArray)
  (ho : o.op = .binOp .eql t x y yT) (ht : lk S.tab t = some ti) (htd : ti.d = .array n E) (he : lk S.tab E = some te) (hed : te.d = .int q) (hsz : te.size = 1) : Yq P o e w (.bool ((List.range n).all fun j => f j == g j)) := by
 refine Yq.of fun w' => ?_
 have hr := zLh S ht htd he hed hsz (k := k) f g w'
 have h2 : (binOp .eql t (.agg (zAN k n f).toArray) (.agg (zAN k n g).toArray)).run P w' = .ok (.bool ((List.range n).all fun j => f j == g j)) w' := by
  rw [run_eql_struct]
  unfold zAN
  rw [hr]; rfl
 simp only [execOp, ho, hx, hy, Sem.run_bind, run_eqGuard_agg w' _ _ _ _ _ _ eg, Result.andThen_ok, h2, Sem.run_pure]
end
section
variable {P : Program} {n : Nw} {ops : Array Oper} {Q : zAX} {o : Oper} {rest : List Oper} {L : List (Nat × Value)} {b0 : Env} {w : World} (S : Sig P)
theorem OX.storeA {w0 : World} {G G' : zI} {t : TypeId} {x y : Operand} {b m j : Nat} {T : TypeId} {k : IntKind} {f : Nat → Int} {v : Int} {ti : TI} (H : St w0 G w) (hj : j < m) (hu : Up b (.cells (zAN k m f).toArray T (0, 0)) (.cells (zAN k m (zEB f j v)).toArray T (0, 0)) G G')
  (kk : ∀ w', St w0 G' w' → OW P n ops Q rest (ovl L b0) w') (ho : o.op = .store t x y := by exact rfl) (hd : o.dst = none := by exact rfl)
  (hx : ev (ovl L b0) x = .pointer (some ⟨b, 0 + j * 1, none⟩) := by exact rfl) (hy : ev (ovl L b0) y = .int k v := by exact rfl) (ht : lk S.tab t = some ti := by exact rfl) (hsz : ti.size = 1 := by exact rfl) : OX P n ops Q o rest (ovl L b0) w := by
 rw [← zPL (k := k) f v hj] at hu
 exact OX.storeX S H ho hd hx hy (v := .int k v) (vs := [.int k v]) rfl ht (by rw [hsz]; rfl) hu (by rw [zAi]; simp; omega) (by intro u hu; rw [List.mem_singleton] at hu; subst hu; rfl) kk
end
end Go.Sk
