/- Texts of ours, joined: the steps of the proof, or the claim's theorem. -/
import Derived.Test.YtggolnppckpdlaaGreatT06
import Derived.Test.YtggolnppckpdlaaGreatT07
set_option linter.unusedSimpArgs false
set_option linter.unusedVariables false
namespace Go.Proofs.YtggolnppckpdlaaGreat
open Go Go.Sk Go.RowKit
attribute [local irreducible] Go.Calls
def zGL (n m : Int) : Bool := decide (1 ≤ n) && decide (n ≤ m)
theorem c_betw (n m : Int) (w : World) : Calls Tryz.prog 295 [.int .i64 n, .int .i64 m].toArray w (Ret (.bool (zGL n m)) w) := by
 refine enter [.tmp 4] Tryz.func295 rfl Tryz.ntmps295 rfl rfl ?_
 have H := zE w
 repeat' (first | refine y1 sg ?_ | refine y5 sg ?_ | refine y13 ?_ | refine y14 ?_ | (refine y17 ?_ ?_; all_goals intro h) | (with_reducible first | apply zB | apply zD | apply zC | apply zG) | refine zA ?_ | fail)
 all_goals simp only [decide_eq_true_eq, decide_eq_false_iff_not, ge_iff_le] at *
 all_goals exact zO rfl H.cl (congrArg Value.bool (by unfold zGL; simp only [*, decide_true, decide_false, Bool.true_and, Bool.and_true, Bool.false_and, Bool.and_false]))
theorem zO2 (n m : Int) (w : World) : Calls Tryz.prog 296 [.int .i64 n, .int .i64 m].toArray w (Ret (.bool (zGL n m)) w) := by
 refine enter [.tmp 4] Tryz.func296 rfl Tryz.ntmps296 rfl rfl ?_
 have H := zE w
 repeat' (first | refine y1 sg ?_ | refine y5 sg ?_ | refine y13 ?_ | refine y14 ?_ | (refine y17 ?_ ?_; all_goals intro h) | (with_reducible first | apply zB | apply zD | apply zC | apply zG) | refine zA ?_ | fail)
 all_goals simp only [decide_eq_true_eq, decide_eq_false_iff_not, ge_iff_le] at *
 all_goals exact zO rfl H.cl (congrArg Value.bool (by unfold zGL; simp only [*, decide_true, decide_false, Bool.true_and, Bool.and_true, Bool.false_and, Bool.and_false]))
def zAP (o : Odr) : Bool := zGL o.id 1099511627776 && zGL o.acct 64 && zGL o.inst 16 && (o.side == 1 || o.side == 2) && zGL o.price 1073741824 && zGL o.left 1048576
theorem zNS (n m : Int) : zGL n m = true ↔ (1 ≤ n ∧ n ≤ m) := by simp [zGL]
def zBx (o : Odr) : Prop := (1 ≤ o.id ∧ o.id ≤ 1099511627776) ∧ (1 ≤ o.acct ∧ o.acct ≤ 64) ∧ (1 ≤ o.inst ∧ o.inst ≤ 16) ∧ (o.side = 1 ∨ o.side = 2) ∧ (1 ≤ o.price ∧ o.price ≤ 1073741824) ∧ (1 ≤ o.left ∧ o.left ≤ 1048576)
theorem zBQ (o : Odr) : zAP o = true ↔ zBx o := by
 unfold zAP zBx
 simp only [Bool.and_eq_true, Bool.or_eq_true, zNS, beq_iff_eq, and_assoc]
theorem zIc (o : Odr) (w0 : World) : Calls Tryz.prog 279 [.agg o.cells.toArray].toArray w0 (Ret (.bool (zAP o)) w0) := by
 refine enter [.tmp 2] Tryz.func279 rfl Tryz.ntmps279 rfl rfl ?_
 have H := zE w0
 repeat' (first | refine y1 sg ?_ | refine y3 ?_ | refine y5 sg ?_ | refine y7 sg H ?_ | (refine y9 H ?_; intro b w H) | (refine' y30 ent296 ?_ ?_; rotate_left; exact zO2 _ _ _; intro w hcl; replace H := H.ext hcl; clear hcl) | (refine' y30 ent295 ?_ ?_; rotate_left; exact c_betw _ _ _; intro w hcl; replace H := H.ext hcl; clear hcl) | refine y13 ?_ | refine y14 ?_ | (refine y17 ?_ ?_; all_goals intro h) | (with_reducible first | apply zB | apply zD | apply zC | apply zG) | refine zA ?_ | fail)
 all_goals exact zO rfl H.cl (congrArg Value.bool (by unfold zAP; simp only [*, Bool.true_and, Bool.and_true, Bool.false_and, Bool.and_false, Bool.true_or, Bool.false_or, Bool.or_true, Bool.or_false]))
theorem zFJ (o : Odr) (w0 : World) : Calls Tryz.prog 227 [.agg o.cells.toArray].toArray w0 (Ret (.bool (zAP o)) w0) := by
 have hp := zBQ o
 have no : ¬ zBx o → false = zAP o := fun h => by
  cases hq : zAP o with
  | false => rfl
  | true => exact absurd (hp.1 hq) h
 refine enter [.tmp 2] Tryz.func227 rfl Tryz.ntmps227 rfl rfl ?_
 have H := zE w0
 repeat' (first | refine y1 sg ?_ | refine y3 ?_ | refine y5 sg ?_ | refine y7 sg H ?_ | (refine y9 H ?_; intro b w H) | refine y13 ?_ | refine y14 ?_ | (refine y17 ?_ ?_; all_goals intro h) | (with_reducible first | apply zB | apply zD | apply zC | apply zG) | refine zA ?_ | fail)
 all_goals simp only [decide_eq_true_eq, decide_eq_false_iff_not, ge_iff_le, beq_iff_eq, beq_eq_false_iff_ne, ne_eq, Int.not_le] at *
 all_goals first
  | exact zO rfl H.cl (congrArg Value.bool (no (by unfold zBx; omega)))
  | exact zO rfl H.cl (congrArg Value.bool (hp.2 (by unfold zBx; omega)).symm)
  | (by_cases hl : o.left ≤ 1048576
     ·exact zO rfl H.cl (congrArg Value.bool ((decide_eq_true hl).trans (hp.2 (by unfold zBx; omega)).symm))
     ·exact zO rfl H.cl (congrArg Value.bool ((decide_eq_false hl).trans (no (by unfold zBx; omega)))))
def zNT (l : List Odr) (k : Nat) : Bool := !zAP (od_ l k) || (decide (0 < k) && decide ((od_ l k).id ≤ (od_ l (k - 1)).id))
def zAu (l : List Odr) : Bool := decide (l.length ≤ 128) && (List.range l.length).all fun k => !zNT l k
def Ords (F : zI) (a : Option Addr) (cap : Nat) (l : List Odr) : Prop := SlA F 6 a l.length cap (odl l)
def OrdP (l : List Odr) (k : Nat) : Prop := ∀ j, j < k → zBx (od_ l j) ∧ (j = 0 ∨ (od_ l (j - 1)).id < (od_ l j).id)
theorem zHA {l : List Odr} {k : Nat} : zNT l k = false ↔ zBx (od_ l k) ∧ (k = 0 ∨ (od_ l (k - 1)).id < (od_ l k).id) := by
 unfold zNT
 rw [Bool.or_eq_false_iff, Bool.not_eq_false', zBQ]
 simp only [Bool.and_eq_false_iff, decide_eq_false_iff_not]
 exact and_congr_right fun _ => by omega
theorem zBR {l : List Odr} : zAu l = true ↔ l.length ≤ 128 ∧ OrdP l l.length := by
 unfold zAu OrdP
 rw [Bool.and_eq_true, decide_eq_true_eq, List.all_eq_true]
 simp only [List.mem_range, Bool.not_eq_true', zHA]
theorem OrdP.succ {l : List Odr} {k : Nat} (h : OrdP l k) (h1 : zBx (od_ l k)) (h2 : k = 0 ∨ (od_ l (k - 1)).id < (od_ l k).id) : OrdP l (k + 1) := fun j hj => by
 rcases (show j < k ∨ j = k by omega) with g | rfl
 ·exact h j g
 ·exact ⟨h1, h2⟩
theorem zGM {l : List Odr} (h : zAu l = true → False) : false = zAu l := by
 cases hq : zAu l with
 | false => rfl
 | true => exact (h hq).elim
set_option maxHeartbeats 4000000 in
theorem zLY {a : Option Addr} {cap : Nat} (l : List Odr) {F : zI} (w0 : World) (hF : Mem w0 F) (hs : Ords F a cap l) :
  Calls Tryz.prog 196 [.slice a l.length cap].toArray w0 (Ret (.bool (zAu l)) w0) := by
 obtain ⟨hnc, hcb, b0, off, cs, T, fr, hs⟩ := hs
 refine enter [.tmp 2] Tryz.func196 rfl Tryz.ntmps196 rfl rfl ?_
 have H := zE w0
 repeat' (first | refine y1 sg ?_ | (with_reducible first | apply zB | apply zD | apply zC | apply zF) | refine zA ?_ | fail)
 refine zK [(2, 37)] (fun k : Nat => [(3, .int .i64 (k : Int))]) (fun k w => k ≤ l.length ∧ k ≤ 128 ∧ OrdP l k ∧ St w0 [] w) (fun k => l.length - k) 0 ⟨rfl, trivial⟩ ⟨Nat.zero_le _, Nat.zero_le _, fun j hj => absurd hj (Nat.not_lt_zero _), H⟩ ?_
 clear H
 rintro k gh w ⟨hk, hk2, hP, H⟩
 repeat' (first | refine y1 sg ?_ | (with_reducible first | apply zB | apply zD | apply zC) | refine zA ?_ | fail)
 refine zL rfl (fun h => ?_) (fun h => ?_)
 ·have hlt : k < l.length := by have := of_decide_eq_true h; omega
  clear h
  have hm := zBQ (od_ l k)
  have hfacts : zAu l = true → k < 128 ∧ zAP (od_ l k) = true ∧ (k = 0 ∨ (od_ l (k - 1)).id < (od_ l k).id) := fun q => by
   obtain ⟨g, o⟩ := zBR.1 q
   exact ⟨by omega, hm.2 (o k hlt).1, (o k hlt).2⟩
  rcases k with _ | j
  ·repeat' (first | refine y1 sg ?_ | refine y2 sg ?_ | refine y6 sg ?_ | (refine y41 sg (hs) ?_ ?_ ?_; (omega); (omega)) | (refine y43 sg (hs) ((H.memF hF)) ?_ ?_; (omega)) | (refine' y31 zJR ?_ ?_; rotate_left; exact (fun _ hcl => zFJ (od_ l 0) _)) | refine y15 ?_ | refine y16 ?_ | (refine y18 ?_ ?_; all_goals intro h) | (with_reducible first | apply zB | apply zD | apply zC | apply zF | apply zG | apply zH | apply zP | apply za) | (with_reducible apply zb; intro w hcl; replace H := H.ext hcl; clear hcl) | refine zA ?_ | refine y20 zZ ?_ | refine y21 ?_ | refine y22 ?_ | fail)
   all_goals simp only [Bool.not_eq_true', Bool.not_eq_false', decide_eq_true_eq, decide_eq_false_iff_not] at *
   all_goals first
    | exact zO rfl H.cl (congrArg Value.bool (zGM fun q => by
      obtain ⟨g1, g2, g3⟩ := hfacts q
      first | omega | (cases g2.symm.trans ‹zAP _ = false›)))
    | exact zM (0 + 1) rfl ⟨zV (by omega), trivial⟩ ⟨hlt, by omega, hP.succ (hm.1 ‹_›) (.inl rfl), H⟩ (by omega)
    | (exfalso; omega)
  ·have hpos : decide (((j + 1 : Nat) : Int) > 0) = true := decide_eq_true (by omega)
   repeat' (first | refine y1 sg ?_ | refine y2 sg ?_ | refine y6 sg ?_ | (refine y41 sg (hs) ?_ ?_ ?_; (first | omega | (rw [w64 (by omega) (by omega)]; omega)); (first | omega | (rw [w64 (by omega) (by omega)]; omega))) | (refine y43 sg (hs) ((H.memF hF)) ?_ ?_; (omega)) | (refine y45 sg (hs) ((H.memF hF)) ?_ ?_; (omega)) | (refine' y31 zJR ?_ ?_; rotate_left; exact (fun _ hcl => zFJ (od_ l (j + 1)) _)) | refine y15 ?_ | refine y16 ?_ | (refine y18 ?_ ?_; all_goals (intro h; try (exfalso; first | ((rw [hpos] at h; cases h); done)))) | (with_reducible first | apply zB | apply zD | apply zC | apply zF | apply zG | apply zH | apply zP | apply za) | (with_reducible apply zb; intro w hcl; replace H := H.ext hcl; clear hcl) | refine zA ?_ | refine y20 zZ ?_ | refine y21 ?_ | (refine y23 ?_ ?_; all_goals (intro h; try (exfalso; first | ((rw [hpos] at h; cases h); done)))) | fail)
   all_goals clear hpos
   all_goals simp only [Bool.not_eq_true', Bool.not_eq_false', decide_eq_true_eq, decide_eq_false_iff_not] at *
   all_goals first
    | exact zO rfl H.cl (congrArg Value.bool (zGM fun q => by
      obtain ⟨g1, g2, g3⟩ := hfacts q
      first | omega | (cases g2.symm.trans ‹zAP _ = false›)))
    | exact zM (j + 1 + 1) rfl ⟨zV (by omega), trivial⟩ ⟨hlt, by omega, hP.succ (hm.1 ‹_›) (.inr (by omega)), H⟩ (by omega)
    | (exfalso; omega)
 ·obtain rfl : k = l.length := by have := of_decide_eq_false h; omega
  repeat' (first | refine y1 sg ?_ | (with_reducible first | apply zB | apply zD | apply zC | apply zG | apply zN | apply zW) | refine zA ?_ | refine y24 ?_ | fail)
  exact zO rfl H.cl (congrArg Value.bool (zBR.2 ⟨hk2, hP⟩).symm)
end Go.Proofs.YtggolnppckpdlaaGreat
set_option linter.unusedSimpArgs false
set_option linter.unusedVariables false
namespace Go.Proofs.YtggolnppckpdlaaGreat
open Go Go.Sk Go.RowKit
attribute [local irreducible] Go.Calls
theorem zNU {p q : Int} (h1 : 1 ≤ p) (h2 : p ≤ 1073741824) (h3 : 1 ≤ q) (h4 : q ≤ 1048576) : 1 ≤ p * q ∧ p * q ≤ 1125899906842624 := by
 have a := Int.mul_le_mul h1 h3 (by omega) (by omega)
 have b := Int.mul_le_mul h2 h4 (by omega) (by omega)
 constructor <;> omega
def zA5 (o : Odr) : Int × Int := if zAP o = true then (if o.side = 1 then (0, o.price * o.left) else (o.inst, o.left)) else (0, 0)
theorem zO3 (o : Odr) (w0 : World) : Calls Tryz.prog 286 [.agg o.cells.toArray].toArray w0 (Ret (.tuple #[.int .i64 (zA5 o).1, .int .i64 (zA5 o).2]) w0) := by
 have hp := zBQ o
 refine enter [.tmp 2, .tmp 3] Tryz.func286 rfl Tryz.ntmps286 rfl rfl ?_
 have H := zE w0
 repeat' (first | refine y1 sg ?_ | refine y2 sg ?_ | refine y3 ?_ | refine y4 ?_ | refine y7 sg H ?_ | refine y8 sg H ?_ | (refine y9 H ?_; intro b w H) | (refine' y30 zNA ?_ ?_; rotate_left; exact zIc o _; intro w hcl; replace H := H.ext hcl; clear hcl) | (with_reducible first | apply zB | apply zD | apply zC | apply zF | apply zG | apply zH | apply zP | apply zDX | apply za) | (with_reducible apply zb; intro w hcl; replace H := H.ext hcl; clear hcl) | refine zA ?_ | refine y20 zZ ?_ | (refine y23 ?_ ?_; all_goals intro h) | fail)
 all_goals simp only [Bool.not_eq_true', Bool.not_eq_false', beq_iff_eq, beq_eq_false_iff_ne, ne_eq] at *
 all_goals first
  | (have hm : ¬ zAP o = true := by rw [‹zAP o = false›]; decide
     exact zCC rfl rfl H.cl (by unfold zA5; rw [if_neg hm]))
  | (have hm := ‹zAP o = true›
     obtain ⟨_, _, _, _, ⟨q1, q2⟩, q3, q4⟩ := hp.1 hm
     obtain ⟨b1, b2⟩ := zNU q1 q2 q3 q4
     refine zCC rfl rfl H.cl ?_
     unfold zA5
     rw [if_pos hm]
     first
      | (rw [if_pos ‹_›, w64 (by omega) (by omega)])
      | rw [if_neg ‹_›])
theorem zNV (o : Odr) (w0 : World) : Calls Tryz.prog 229 [.agg o.cells.toArray].toArray w0 (Ret (.tuple #[.int .i64 (zA5 o).1, .int .i64 (zA5 o).2]) w0) := by
 have hp := zBQ o
 refine enter [.tmp 2, .tmp 3] Tryz.func229 rfl Tryz.ntmps229 rfl rfl ?_
 have H := zE w0
 repeat' (first | refine y1 sg ?_ | refine y2 sg ?_ | refine y3 ?_ | refine y4 ?_ | refine y7 sg H ?_ | refine y8 sg H ?_ | (refine y9 H ?_; intro b w H) | (refine' y30 zJR ?_ ?_; rotate_left; exact zFJ o _; intro w hcl; replace H := H.ext hcl; clear hcl) | (with_reducible first | apply zB | apply zD | apply zC | apply zG | apply zH | apply zP) | (with_reducible apply zb; intro w hcl; replace H := H.ext hcl; clear hcl) | refine zA ?_ | refine y20 zZ ?_ | (refine y23 ?_ ?_; all_goals intro h) | fail)
 all_goals simp only [Bool.not_eq_true', Bool.not_eq_false', beq_iff_eq, beq_eq_false_iff_ne, ne_eq] at *
 all_goals first
  | (have hm : ¬ zAP o = true := by rw [‹zAP o = false›]; decide
     exact zCC rfl rfl H.cl (by unfold zA5; rw [if_neg hm]))
  | (have hm := ‹zAP o = true›
     obtain ⟨_, _, _, _, ⟨q1, q2⟩, q3, q4⟩ := hp.1 hm
     obtain ⟨b1, b2⟩ := zNU q1 q2 q3 q4
     refine zCC rfl rfl H.cl ?_
     unfold zA5
     rw [if_pos hm]
     first
      | (rw [if_pos ‹_›, w64 (by omega) (by omega)])
      | rw [if_neg ‹_›])
theorem c_byID (x y : Odr) (w0 : World) : Calls Tryz.prog 280 [.agg x.cells.toArray, .agg y.cells.toArray].toArray w0 (Ret (.int .i64 (zFH x.id y.id)) w0) := by
 refine enter [.tmp 4] Tryz.func280 rfl Tryz.ntmps280 rfl rfl ?_
 have H := zE w0
 repeat' (first | refine y1 sg ?_ | refine y3 ?_ | refine y7 sg H ?_ | (refine y9 H ?_; intro b w H) | (refine' y30 zJQ ?_ ?_; rotate_left; exact zFI _ _ _; intro w hcl; replace H := H.ext hcl; clear hcl) | (with_reducible first | apply zB | apply zD | apply zC | apply zG) | refine zA ?_ | fail)
 exact zO rfl H.cl rfl
theorem zO4 (o : Odr) (w0 : World) : Calls Tryz.prog 278 [.agg o.cells.toArray].toArray w0 (Ret (.bool (!zAP o)) w0) := by
 refine enter [.tmp 2] Tryz.func278 rfl Tryz.ntmps278 rfl rfl ?_
 have H := zE w0
 repeat' (first | refine y1 sg ?_ | refine y3 ?_ | refine y7 sg H ?_ | (refine y9 H ?_; intro b w H) | (refine' y30 zNA ?_ ?_; rotate_left; exact zIc o _; intro w hcl; replace H := H.ext hcl; clear hcl) | (with_reducible first | apply zB | apply zD | apply zC | apply zG) | refine zA ?_ | fail)
 exact zO rfl H.cl rfl
theorem zO5 (x y : Int) : decide (zFH x y ≥ 0) = decide (y ≤ x) := by
 unfold zFH
 split
 ·simp; omega
 ·split <;> simp <;> omega
set_option maxHeartbeats 4000000 in
theorem zNW {a : Option Addr} {cap : Nat} (l : List Odr) {F : zI} (w0 : World) (hF : Mem w0 F) (hs0 : Ords F a cap l) :
  Calls Tryz.prog 240 [.slice a l.length cap].toArray w0 (Ret (.bool (zAu l)) w0) := by
 obtain ⟨hnc, hcb, b0, off, cs, T, fr, hs⟩ := id hs0
 have cont : ∀ {w : World}, Mem w F → Calls Tryz.prog 241 [.slice a l.length cap, .func (.func 278) #[] #[]].toArray w (Ret (.bool (decide (idx (fun j => !zAP (od_ l j)) l.length ≥ 0))) w) := fun hF =>
  zED (caps := []) (fun j => !zAP (od_ l j)) _ hF hs0 ent278 (fun j _ w _ => zO4 (od_ l j) w)
 have hno : idx (fun j => !zAP (od_ l j)) l.length ≥ 0 → zAu l = true → False := fun h q => by
  rcases zAC (fun j => !zAP (od_ l j)) l.length with ⟨k, hk, _, hb, _⟩ | ⟨_, hx⟩
  ·have := ((zBR.1 q).2 k hk).1
   rw [(zBQ _).2 this] at hb; cases hb
  ·omega
 have hyes : ¬ idx (fun j => !zAP (od_ l j)) l.length ≥ 0 → ∀ j, j < l.length → zBx (od_ l j) := fun h j hj => by
  rcases zAC (fun j => !zAP (od_ l j)) l.length with ⟨k, _, _, _, hx⟩ | ⟨ha, _⟩
  ·omega
  ·have := ha j hj
   exact (zBQ _).1 (by simpa using this)
 refine enter [.tmp 2] Tryz.func240 rfl Tryz.ntmps240 rfl rfl ?_
 have H := zE w0
 repeat' (first | refine y1 sg ?_ | refine y5 sg ?_ | (refine' y30 zM5 ?_ ?_; rotate_left; exact cont (H.memF hF); intro w hcl; replace H := H.ext hcl; clear hcl) | refine y13 ?_ | refine y14 ?_ | (refine y17 ?_ ?_; all_goals intro h) | (with_reducible first | apply zB | apply zD | apply zC | apply zG | apply zP) | refine zA ?_ | refine y21 ?_ | fail)
 ·exact zO rfl H.cl (congrArg Value.bool (zGM fun q => by have := (zBR.1 q).1; have := of_decide_eq_true h; omega))
 have h128 : l.length ≤ 128 := by have := of_decide_eq_false h; omega
 refine zL rfl (fun h2 => ?_) (fun h2 => ?_)
 ·repeat' (first | refine y1 sg ?_ | (with_reducible first | apply zB | apply zD | apply zC | apply zG | apply zP) | refine zA ?_ | fail)
  exact zO rfl H.cl (congrArg Value.bool (zGM (hno (of_decide_eq_true h2))))
 have hall := hyes (of_decide_eq_false h2)
 clear hno hyes cont h h2
 have hmin : (if ((l.length : Nat) : Int) < 1 then ((l.length : Nat) : Int) else 1) = ((min 1 l.length : Nat) : Int) := by split <;> omega
 repeat' (first | refine y1 sg ?_ | refine y3 ?_ | (with_reducible first | apply zD | apply zC | apply zH) | refine zA ?_ | fail)
 rw [hmin]
 repeat' (first | refine y1 sg ?_ | (refine zf rfl rfl (Yq.sliceLo sg rfl rfl rfl rfl rfl rfl (Int.toNat_natCast _) (by omega) (by omega)) ?_) | (with_reducible first | apply zB | apply zD | apply zF) | fail)
 refine zK [(2, 3), (17, 31)] (fun k : Nat => [(17, .int .i64 (k : Int))]) (fun k w => k ≤ l.length - min 1 l.length ∧ OrdP l (k + min 1 l.length) ∧ St w0 [] w) (fun k => l.length - k) 0 ⟨rfl, trivial⟩ ⟨Nat.zero_le _, fun j hj => ⟨hall j (by omega), .inl (by omega)⟩, H⟩ ?_
 clear H
 rintro k gh w ⟨hk, hP, H⟩
 repeat' (first | refine y1 sg ?_ | (with_reducible first | apply zB | apply zD | apply zC) | refine zA ?_ | fail)
 refine zL rfl (fun h => ?_) (fun h => ?_)
 ·have hlt : k + 1 < l.length := by have := of_decide_eq_true h; omega
  clear h
  have hm1 : min 1 l.length = 1 := by omega
  rw [hm1] at hP
  have hq : IntKind.i64.wrap ((k : Int) + 1) = ((k + 1 : Nat) : Int) := by rw [w64 (by omega) (by omega)]; omega
  repeat' (first | refine y1 sg ?_ | refine y2 sg ?_ | refine y4 ?_ | (refine zAD rfl rfl (zc sg hs rfl rfl rfl rfl rfl rfl rfl ((congrArg Int.toNat hq).trans (Int.toNat_natCast _)) (by rw [hq]; omega) (by rw [hq]; omega)) ?_) | (refine y41 sg (hs) ?_ ?_ ?_; (omega); (omega)) | (refine y43 sg (hs) ((H.memF hF)) ?_ ?_; (omega)) | (refine' y31 ent280 ?_ ?_; rotate_left; exact (fun _ hcl => c_byID (od_ l k) (od_ l (k + 1)) _)) | (with_reducible first | apply zB | apply zD | apply zC | apply zF | apply zH) | (with_reducible apply zb; intro w hcl; replace H := H.ext hcl; clear hcl) | refine zA ?_ | refine y20 zZ ?_ | fail)
  rw [zO5]
  refine zL rfl (fun h => ?_) (fun h => ?_)
  ·repeat' (first | refine y1 sg ?_ | (with_reducible first | apply zB | apply zD | apply zC | apply zG | apply zP | apply za) | refine zA ?_ | fail)
   exact zO rfl H.cl (congrArg Value.bool (zGM fun q => by
    have := ((zBR.1 q).2 (k + 1) hlt).2
    have h := of_decide_eq_true h
    rw [Nat.add_sub_cancel] at this
    omega))
  ·have h := of_decide_eq_false h
   repeat' (first | refine y1 sg ?_ | (with_reducible first | apply zB | apply zD | apply zH) | refine zA ?_ | fail)
   refine zM (k + 1) rfl ⟨zV (by omega), trivial⟩ ⟨by omega, ?_, H⟩ (by omega)
   rw [hm1]
   exact hP.succ (hall _ hlt) (.inr (by rw [Nat.add_sub_cancel]; omega))
 ·have hkn : k + min 1 l.length = l.length := by have := of_decide_eq_false h; omega
  rw [hkn] at hP
  repeat' (first | refine y1 sg ?_ | (with_reducible first | apply zB | apply zD | apply zC | apply zG | apply zN | apply zW) | refine zA ?_ | refine y24 ?_ | fail)
  exact zO rfl H.cl (congrArg Value.bool (zBR.2 ⟨h128, hP⟩).symm)
end Go.Proofs.YtggolnppckpdlaaGreat
