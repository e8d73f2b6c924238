/- Texts of ours, joined: the steps of the proof, or the claim's theorem. -/
import Derived.Test.YtggolnppckpdlaaGreatR03
import Derived.Test.YtggolnppckpdlaaGreatR06
import Derived.Test.YtggolnppckpdlaaGreatR07
set_option linter.unusedSimpArgs false
set_option linter.unusedVariables false
namespace Go.Proofs.YtggolnppckpdlaaGreat
open Go Go.Sk Go.RowKit
def zBW (a s : Int) : Bool := decide (0 ≤ a) && decide (a ≤ 64) && decide (0 ≤ s) && decide (s ≤ 16)
theorem zDA (a s : Int) : zBW a s = true ↔ (0 ≤ a ∧ a ≤ 64 ∧ 0 ≤ s ∧ s ≤ 16) := by
 simp only [zBW, Bool.and_eq_true, decide_eq_true_eq]; omega
def plc2 (a s : Int) : List Value := [.int .i64 a, .int .i64 s]
theorem c_pmay (a s : Int) (w0 : World) : Calls Tryz.prog 274 [.agg (plc2 a s).toArray].toArray w0 (Ret (.bool (zBW a s)) w0) := by
 refine enter [.tmp 2] Tryz.func274 rfl Tryz.ntmps274 rfl rfl ?_
 have H := zH w0
 repeat' (first | refine y1 sg ?_ | refine y3 ?_ | refine y5 sg ?_ | refine y7 sg H ?_ | (refine y9 H ?_; intro b w H) | refine y13 ?_ | refine y14 ?_ | (refine y17 ?_ ?_; all_goals intro h) | (with_reducible first | apply zB | apply zD | apply zC | apply zF) | refine zA ?_ | fail)
 all_goals simp only [decide_eq_true_eq, decide_eq_false_iff_not, ge_iff_le] at *
 all_goals first
  | exact zQ rfl H.cl (congrArg Value.bool (by unfold zBW; simp only [*, decide_true, decide_false, Bool.true_and, Bool.and_true, Bool.false_and, Bool.and_false]))
theorem zIP (a s : Int) (w0 : World) : Calls Tryz.prog 226 [.int .i64 a, .int .i64 s].toArray w0 (Ret (.bool (zBW a s)) w0) := by
 refine enter [.tmp 4] Tryz.func226 rfl Tryz.ntmps226 rfl rfl ?_
 have H := zH w0
 repeat' (first | refine y1 sg ?_ | refine y5 sg ?_ | refine y13 ?_ | refine y14 ?_ | (refine y17 ?_ ?_; all_goals intro h) | (with_reducible first | apply zB | apply zD | apply zC | apply zF) | refine zA ?_ | fail)
 all_goals simp only [decide_eq_true_eq, decide_eq_false_iff_not, ge_iff_le] at *
 all_goals first
  | exact zQ rfl H.cl (congrArg Value.bool (by unfold zBW; simp only [*, decide_true, decide_false, Bool.true_and, Bool.and_true, Bool.false_and, Bool.and_false]))
def orF (x y : Int) : Int := if x = 0 then y else x
theorem zNW {b : Nat} {T : TypeId} {fr : Nat × Nat} {F : zI} (x y : Int) (w0 : World) (hF : Mem w0 F) (hm : (b, Obj.cells [Value.int .i64 x, Value.int .i64 y].toArray T fr) ∈ F) :
  Calls Tryz.prog 213 [.slice (some ⟨b, 0, none⟩) 2 2].toArray w0 (Ret (.int .i64 (orF x y)) w0) := by
 have hs : SlB F 1 (some ⟨b, 0, none⟩) 2 b 0 [.int .i64 x, .int .i64 y] T fr (fun j => [.int .i64 (if j = 0 then x else y)]) := fun _ => ⟨rfl, hm, fun j hj => by
  have : j = 0 ∨ j = 1 := by omega
  rcases this with rfl | rfl <;> exact ⟨by simp, rfl⟩⟩
 refine enter [.tmp 2] Tryz.func213 rfl Tryz.ntmps213 rfl rfl ?_
 have H := zH w0
 repeat' (first | refine y1 sg ?_ | (with_reducible first | apply zB | apply zD | apply zC | apply zE) | refine zA ?_ | fail)
 refine zK [(2, 2), (5, 5), (8, 16)] (fun k : Nat => [(8, .int .i64 (k : Int))]) (fun k w => k ≤ 2 ∧ (0 < k → x = 0) ∧ (1 < k → y = 0) ∧ St w0 [] w) (fun k => 2 - k) 0 ⟨rfl, trivial⟩ ⟨Nat.zero_le _, fun h => absurd h (by omega), fun h => absurd h (by omega), H⟩ ?_
 clear H
 rintro k gh w ⟨hk, h1, h2, H⟩
 repeat' (first | refine y1 sg ?_ | (with_reducible first | apply zB | apply zD | apply zC) | refine zA ?_ | fail)
 refine zM rfl (fun h => ?_) (fun h => ?_)
 ·have hlt : k < 2 := by have := of_decide_eq_true h; omega
  clear h
  repeat' (first | refine y1 sg ?_ | refine y3 ?_ | (refine y40 sg (hs) ?_ ?_ ?_; (omega); (omega)) | (refine y46 sg (hs) ((H.memF hF)) ?_ ?_; (omega)) | (with_reducible first | apply zB | apply zD | apply zC | apply zE | apply zG) | refine zA ?_ | fail)
  refine zM rfl (fun h => ?_) (fun h => ?_)
  ·repeat' (first | refine y1 sg ?_ | (with_reducible first | apply zB | apply zD | apply zC | apply zF | apply zO | apply zW) | refine zA ?_ | fail)
   have h : ¬ (if k = 0 then x else y) = 0 := by simpa using h
   refine zQ rfl H.cl (congrArg (Value.int .i64) ?_)
   rcases (show k = 0 ∨ k = 1 by omega) with rfl | rfl
   ·rw [if_pos rfl] at h ⊢; unfold orF; rw [if_neg h]
   ·rw [if_neg (by omega)]; unfold orF; rw [if_pos (h1 (by omega))]
  ·have h : (if k = 0 then x else y) = 0 := by simpa using h
   repeat' (first | refine y1 sg ?_ | (with_reducible first | apply zB | apply zD | apply zG) | refine zA ?_ | fail)
   refine zJ (k + 1) rfl ⟨zT (by omega), trivial⟩ ⟨hlt, fun _ => ?_, fun g => ?_, H⟩ (by omega)
   ·rcases (show k = 0 ∨ k = 1 by omega) with rfl | rfl
    ·rw [if_pos rfl] at h; exact h
    ·exact h1 (by omega)
   ·obtain rfl : k = 1 := by omega
    rw [if_neg (by omega)] at h; exact h
 ·obtain rfl : k = 2 := by have := of_decide_eq_false h; omega
  repeat' (first | refine y1 sg ?_ | (with_reducible first | apply zB | apply zD | apply zC | apply zF | apply zL | apply zS) | refine zA ?_ | refine y24 ?_ | fail)
  exact zQ rfl H.cl (congrArg (Value.int .i64) (by unfold orF; rw [h1 (by omega), if_pos rfl, h2 (by omega)]))
def zJd (a s b t : Int) : Int := orF (zEv a b) (zEv s t)
theorem zEY (a s b t : Int) : zJd a s b t < 0 ↔ (a < b ∨ a = b ∧ s < t) := by
 unfold zJd orF zEv
 repeat' split
 all_goals omega
set_option maxHeartbeats 2000000 in
theorem c_pcmp (a s b t : Int) (w0 : World) : Calls Tryz.prog 275 [.agg (plc2 a s).toArray, .agg (plc2 b t).toArray].toArray w0 (Ret (.int .i64 (zJd a s b t)) w0) := by
 refine enter [.tmp 4] Tryz.func275 rfl Tryz.ntmps275 rfl rfl ?_
 have H := zH w0
 repeat' (first | refine y1 sg ?_ | refine y2 sg ?_ | refine y3 ?_ | refine y4 ?_ | refine y8 sg H ?_ | (refine y9 H ?_; intro b w H) | refine y12 ?_ | (refine CW.regionR mixed ?_; intro w hcl; replace H := H.ext hcl; clear hcl; (with_reducible apply RW.quiet 10); exact rfl; decide +kernel; simp only [List.append_eq, List.cons_append, List.nil_append, List.take_succ_cons, List.take_zero, List.drop_zero]) | (refine' y31 zJQ ?_ ?_; rotate_left; exact (fun _ hcl => zEA _ _ _)) | (refine z14 sg H ?_; intro b w H) | (refine' y30 zJP ?_ ?_; rotate_left; exact zNW _ _ _ (H.mem) (List.Mem.head _); intro w hcl; replace H := H.ext hcl; clear hcl) | (with_reducible first | apply zB | apply zD | apply zC | apply zF) | (with_reducible apply zV; intro w hcl; replace H := H.ext hcl; clear hcl) | refine y19 ?_ | refine zA ?_ | fail)
 exact zQ rfl H.cl rfl
def zEC (acct free held : Int) : Int := if acct = 0 then 0 else if free < 0 ∨ held < 0 then 47 else if free > 1125899906842624 ∨ held > 1125899906842624 ∨ free + held > 1125899906842624 then 41 else 0
set_option maxHeartbeats 2000000 in
theorem zPM (a s f d : Int) (w0 : World) (hf1 : -9223372036854775808 ≤ f) (hf2 : f ≤ 9223372036854775807) (hd1 : -9223372036854775808 ≤ d) (hd2 : d ≤ 9223372036854775807) :
  Calls Tryz.prog 276 [.agg #[.int .i64 a, .int .i64 s, .int .i64 f, .int .i64 d]].toArray w0 (Ret (.int .i64 (zEC a f d)) w0) := by
 refine enter [.tmp 2] Tryz.func276 rfl Tryz.ntmps276 rfl rfl ?_
 have H := zH w0
 repeat' (first | refine y1 sg ?_ | refine y3 ?_ | refine y5 sg ?_ | refine y7 sg H ?_ | (refine y9 H ?_; intro b w H) | refine y13 ?_ | refine y14 ?_ | (refine y17 ?_ ?_; all_goals intro h) | (with_reducible first | apply zB | apply zD | apply zC | apply zE | apply zF | apply zG | apply zO | apply zDL | apply zW) | refine zA ?_ | refine y21 ?_ | (refine y23 ?_ ?_; all_goals intro h) | fail)
 all_goals simp only [decide_eq_true_eq, decide_eq_false_iff_not, ge_iff_le, gt_iff_lt, beq_iff_eq, beq_eq_false_iff_ne, ne_eq] at *
 all_goals try rw [w64 (by omega) (by omega)] at h
 all_goals exact zQ rfl H.cl (congrArg (Value.int .i64) (by unfold zEC; (repeat' split) <;> omega))
end Go.Proofs.YtggolnppckpdlaaGreat
set_option linter.unusedSimpArgs false
set_option linter.unusedVariables false
namespace Go.Proofs.YtggolnppckpdlaaGreat
open Go Go.Sk Go.RowKit
def zNX (r : Row4) : Bool := zBW r.acct r.asset && !(r.free == 0 && r.held == 0) && (if r.acct = 0 then r.held == 0 else decide (0 ≤ r.free) && decide (0 ≤ r.held) && decide (r.free + r.held ≤ 1125899906842624))
def zDU (r : Row4) : Prop := (0 ≤ r.acct ∧ r.acct ≤ 64 ∧ 0 ≤ r.asset ∧ r.asset ≤ 16) ∧ ¬ (r.free = 0 ∧ r.held = 0) ∧ (r.acct = 0 → r.held = 0) ∧ (r.acct ≠ 0 → 0 ≤ r.free ∧ 0 ≤ r.held ∧ r.free + r.held ≤ 1125899906842624)
theorem zGv (r : Row4) : zNX r = true ↔ zDU r := by
 unfold zNX zDU
 rw [Bool.and_eq_true, Bool.and_eq_true, zDA]
 by_cases h : r.acct = 0
 ·simp [h]; omega
 ·simp [h]; omega
def ltR (a b : Row4) : Bool := decide (a.acct < b.acct) || (decide (a.acct = b.acct) && decide (a.asset < b.asset))
def LtR (a b : Row4) : Prop := a.acct < b.acct ∨ a.acct = b.acct ∧ a.asset < b.asset
theorem zPN (a b : Row4) : ltR a b = true ↔ LtR a b := by simp [ltR, LtR]
def smR (l : List Row4) (a : Int) : Nat → Int
 | 0 => 0
 | k + 1 => smR l a k + if (rw_ l k).asset = a then (rw_ l k).free + (rw_ l k).held else 0
def zKz (l : List Row4) (k : Nat) : Bool := zNX (rw_ l k) && (k == 0 || ltR (rw_ l (k - 1)) (rw_ l k))
def zBU (l : List Row4) : Bool := (List.range l.length).all (fun k => zKz l k) && (List.range 17).all fun a => smR l (a : Nat) l.length == 0
def RowsP (l : List Row4) (k : Nat) : Prop := ∀ j, j < k → zDU (rw_ l j) ∧ (j = 0 ∨ LtR (rw_ l (j - 1)) (rw_ l j))
theorem zGw {l : List Row4} {k : Nat} : zKz l k = true ↔ zDU (rw_ l k) ∧ (k = 0 ∨ LtR (rw_ l (k - 1)) (rw_ l k)) := by
 unfold zKz
 rw [Bool.and_eq_true, zGv, Bool.or_eq_true, zPN]
 simp
theorem zBT {l : List Row4} : zBU l = true ↔ RowsP l l.length ∧ ∀ a : Nat, a < 17 → smR l a l.length = 0 := by
 unfold zBU RowsP
 rw [Bool.and_eq_true, List.all_eq_true, List.all_eq_true]
 simp only [List.mem_range, zGw, beq_iff_eq]
theorem RowsP.succ {l : List Row4} {k : Nat} (h : RowsP l k) (h1 : zDU (rw_ l k)) (h2 : k = 0 ∨ LtR (rw_ l (k - 1)) (rw_ l k)) : RowsP l (k + 1) := fun j hj => by
 rcases (show j < k ∨ j = k by omega) with g | rfl
 ·exact h j g
 ·exact ⟨h1, h2⟩
theorem RowsP.lt {l : List Row4} {k : Nat} (h : RowsP l k) : ∀ {i j : Nat}, i < j → j < k → LtR (rw_ l i) (rw_ l j) := by
 intro i j hij
 induction j with
 | zero => omega
 | succ j ih =>
   intro hj
   have h2 := (h (j + 1) hj).2.resolve_left (by omega)
   rw [Nat.add_sub_cancel] at h2
   rcases (show i = j ∨ i < j by omega) with rfl | g
   ·exact h2
   ·have h1 := ih g (by omega)
    unfold LtR at *
    omega
def zR (l : List Row4) (a : Int) : Nat → Int
 | 0 => 0
 | k + 1 => zR l a k + if (rw_ l k).asset = a ∧ (rw_ l k).acct = 0 then (rw_ l k).free else 0
def pR (l : List Row4) (a : Int) : Nat → Int
 | 0 => 0
 | k + 1 => pR l a k + if (rw_ l k).asset = a ∧ (rw_ l k).acct ≠ 0 then (rw_ l k).free + (rw_ l k).held else 0
theorem zCu {l : List Row4} {a : Int} : ∀ {k : Nat}, RowsP l k → smR l a k = zR l a k + pR l a k
 | 0, _ => rfl
 | k + 1, h => by
   have ih := zCu (a := a) (fun j hj => h j (by omega) : RowsP l k)
   have hg := (h k (Nat.lt_succ_self k)).1.2.2.1
   simp only [smR, zR, pR, ih]
   by_cases h1 : (rw_ l k).asset = a
   ·by_cases h2 : (rw_ l k).acct = 0
    ·have := hg h2; simp [h1, h2, this]; omega
    ·simp [h1, h2]; omega
   ·simp [h1]
theorem zGx {l : List Row4} {a : Int} : ∀ {k : Nat}, RowsP l k → ∃ m : Int, 0 ≤ m ∧ m ≤ 64 ∧ 0 ≤ pR l a k ∧ pR l a k ≤ 1125899906842624 * m ∧ (m = 0 ∨ ∃ j, j < k ∧ (rw_ l j).acct = m ∧ (rw_ l j).asset = a)
 | 0, _ => ⟨0, by omega, by omega, by simp [pR], by simp [pR], .inl rfl⟩
 | k + 1, h => by
   obtain ⟨m, m1, m2, m3, m4, m5⟩ := zGx (a := a) (fun j hj => h j (by omega) : RowsP l k)
   have hg := (h k (Nat.lt_succ_self k)).1
   simp only [pR]
   by_cases h1 : (rw_ l k).asset = a ∧ (rw_ l k).acct ≠ 0
   ·rw [if_pos h1]
    obtain ⟨g1, g2, g3⟩ := hg.2.2.2 h1.2
    have hlt : m < (rw_ l k).acct := by
     rcases m5 with rfl | ⟨j, j1, j2, j3⟩
     ·have := hg.1.1; omega
     ·have := h.lt j1 (Nat.lt_succ_self k)
      unfold LtR at this
      omega
    exact ⟨(rw_ l k).acct, by omega, hg.1.2.1, by omega, by omega, .inr ⟨k, Nat.lt_succ_self k, rfl, h1.1⟩⟩
   ·rw [if_neg h1]
    exact ⟨m, m1, m2, by omega, by omega, m5.imp_right fun ⟨j, j1, j2⟩ => ⟨j, by omega, j2⟩⟩
theorem zR_no {l : List Row4} {a : Int} : ∀ {k : Nat}, (∀ j, j < k → ¬ ((rw_ l j).asset = a ∧ (rw_ l j).acct = 0)) → zR l a k = 0
 | 0, _ => rfl
 | k + 1, h => by
   simp only [zR]
   rw [zR_no (fun j hj => h j (by omega)), if_neg (h k (Nat.lt_succ_self k))]; rfl
theorem zF1 {l : List Row4} {a : Int} {n j : Nat} (h : RowsP l n) (hj : j < n) (h1 : (rw_ l j).asset = a) (h2 : (rw_ l j).acct = 0) : ∀ {k : Nat}, k ≤ n → zR l a k = if j < k then (rw_ l j).free else 0
 | 0, _ => by simp [zR]
 | k + 1, hk => by
   have ih := zF1 h hj h1 h2 (k := k) (by omega)
   simp only [zR, ih]
   rcases (show k < j ∨ k = j ∨ j < k by omega) with g | rfl | g
   ·have : ¬ ((rw_ l k).asset = a ∧ (rw_ l k).acct = 0) := fun ⟨q1, q2⟩ => by
     have := h.lt g hj
     unfold LtR at this
     omega
    rw [if_neg this, if_neg (by omega), if_neg (by omega)]; rfl
   ·rw [if_neg (by omega), if_pos ⟨h1, h2⟩, if_pos (by omega)]; omega
   ·have : ¬ ((rw_ l k).asset = a ∧ (rw_ l k).acct = 0) := fun ⟨q1, q2⟩ => by
     have := h.lt g (by omega)
     unfold LtR at this
     omega
    rw [if_pos g, if_neg this, if_pos (by omega)]; omega
theorem zPO {l : List Row4} (hl : zBU l = true) {a : Nat} (ha : a < 17) {k : Nat} (hk : k ≤ l.length) : -72057594037927936 ≤ smR l a k ∧ smR l a k ≤ 72057594037927936 := by
 obtain ⟨h, h0⟩ := zBT.1 hl
 have hk2 : RowsP l k := fun j hj => h j (by omega)
 obtain ⟨m, m1, m2, m3, m4, _⟩ := zGx (a := a) h
 obtain ⟨m', p1, p2, p3, p4, _⟩ := zGx (a := a) hk2
 have e1 := zCu (a := a) h
 have e2 := zCu (a := a) hk2
 rw [h0 a ha] at e1
 by_cases hz : ∃ j, j < l.length ∧ (rw_ l j).asset = a ∧ (rw_ l j).acct = 0
 ·obtain ⟨j, j1, j2, j3⟩ := hz
  have z1 := zF1 h j1 j2 j3 (Nat.le_refl _)
  have z2 := zF1 h j1 j2 j3 hk
  rw [if_pos j1] at z1
  split at z2 <;> omega
 ·have z2 : zR l a k = 0 := zR_no fun j hj hh => hz ⟨j, by omega, hh.1, hh.2⟩
  omega
theorem zEy {l : List Row4} (hl : zBU l = true) {j : Nat} (hj : j < l.length) (h0 : (rw_ l j).acct = 0) : -72057594037927936 ≤ (rw_ l j).free ∧ (rw_ l j).free ≤ 0 := by
 obtain ⟨h, h1⟩ := zBT.1 hl
 have hg := (h j hj).1.1
 have ha : (rw_ l j).asset = (((rw_ l j).asset.toNat : Nat) : Int) := by omega
 obtain ⟨m, m1, m2, m3, m4, _⟩ := zGx (a := (rw_ l j).asset) h
 have e1 := zCu (a := (rw_ l j).asset) h
 have z1 := zF1 h hj rfl h0 (Nat.le_refl _)
 rw [if_pos hj] at z1
 have := h1 (rw_ l j).asset.toNat (by omega)
 rw [← ha] at this
 omega
end Go.Proofs.YtggolnppckpdlaaGreat
set_option linter.unusedSimpArgs false
set_option linter.unusedVariables false
namespace Go.Proofs.YtggolnppckpdlaaGreat
open Go Go.Sk Go.RowKit
def zHa (z : Int) : List Value := [.int .i64 (z / 18446744073709551616), .int .u64 (z % 18446744073709551616)]
theorem zLi (x y : Int) (hx : 0 ≤ x) (hy : 0 ≤ y) (w : World) : (callFunc 292 [Value.int .u64 x, Value.int .u64 y, Value.int .u64 0].toArray).run Tryz.prog w =
  .ok (.value (.tuple #[.int .u64 ((x + y + 0) % 18446744073709551616), .int .u64 ((x + y + 0) / 18446744073709551616)])) w := by
 rw [run_callFunc_extern (e := add64Entry) Tryz.func292 (by kernel_rfl) (by kernel_rfl) (by kernel_rfl) (by kernel_rfl)]
 rw [run_add64 x y 0 hx hy (Int.le_refl 0) (by omega)]
 rfl
theorem u64w (n : Int) : IntKind.u64.wrap n = n % 18446744073709551616 := rfl
theorem shr63 (n : Int) : n.fdiv (2 ^ min 63 IntKind.i64.bits) = n / 9223372036854775808 := by
 have : ((2 : Int) ^ min 63 IntKind.i64.bits) = 9223372036854775808 := by decide
 rw [this, Int.fdiv_eq_ediv_of_nonneg _ (by omega)]
theorem zLj (z n : Int) (h1 : -1267650600228229401496703205376 ≤ z) (h2 : z ≤ 1267650600228229401496703205376) (h3 : -9223372036854775808 ≤ n) (h4 : n ≤ 9223372036854775807) :
  IntKind.i64.wrap (IntKind.i64.wrap (z / 18446744073709551616 + n.fdiv (2 ^ min 63 IntKind.i64.bits)) + IntKind.i64.wrap ((z % 18446744073709551616 + IntKind.u64.wrap n + 0) / 18446744073709551616)) = (z + n) / 18446744073709551616 := by
 rw [shr63, u64w, w64 (x := z / 18446744073709551616 + n / 9223372036854775808) (by omega) (by omega), w64 (x := (z % 18446744073709551616 + n % 18446744073709551616 + 0) / 18446744073709551616) (by omega) (by omega), w64 (by omega) (by omega)]
 omega
theorem zNY (z n : Int) : (z % 18446744073709551616 + IntKind.u64.wrap n + 0) % 18446744073709551616 = (z + n) % 18446744073709551616 := by
 rw [u64w]; omega
theorem c_plus (z n : Int) (w0 : World) (h1 : -1267650600228229401496703205376 ≤ z) (h2 : z ≤ 1267650600228229401496703205376) (h3 : -9223372036854775808 ≤ n) (h4 : n ≤ 9223372036854775807) :
  Calls Tryz.prog 262 [.agg (zHa z).toArray, .int .i64 n].toArray w0 (Ret (.agg (zHa (z + n)).toArray) w0) := by
 refine enter [.cell 4 284] Tryz.func262 rfl Tryz.ntmps262 rfl rfl ?_
 have H := zH w0
 repeat' (first | refine y1 sg ?_ | refine y3 ?_ | refine y7 sg H ?_ | (refine y9 H ?_; intro b w H) | (refine y10 sg H ?_; intro b w H) | (refine y11 sg H ?_; intro w H) | refine z13 (Yq.ext rfl rfl (zLi (z % 18446744073709551616) (IntKind.u64.wrap n) (by omega) (by rw [u64w]; omega))) ?_ | (with_reducible first | apply zB | apply zD | apply zC | apply zF) | refine zA ?_ | fail)
 refine zCY (vs := [_]) ⟨zAF sg rfl H.mem (List.Mem.head _) rfl rfl, trivial⟩ H.cl ?_
 rw [zLj z n h1 h2 h3 h4, zNY]
 rfl
def zCQ (l : List Int) : Nat → Int
 | 0 => 0
 | k + 1 => zCQ l k + l.getD k 0
def iel (l : List Int) (j : Nat) : List Value := [.int .i64 (l.getD j 0)]
def Ints (F : zI) (a : Option Addr) (cap : Nat) (l : List Int) : Prop := SlA F 1 a l.length cap (iel l)
def I64 (l : List Int) : Prop := ∀ j, -9223372036854775808 ≤ l.getD j 0 ∧ l.getD j 0 ≤ 9223372036854775807
theorem zNZ (l : List Int) (h : I64 l) (k : Nat) : -9223372036854775808 * k ≤ zCQ l k ∧ zCQ l k ≤ 9223372036854775807 * k := by
 induction k with
 | zero => exact ⟨by simp [zCQ], by simp [zCQ]⟩
 | succ k ih => have := h k; simp only [zCQ]; constructor <;> omega
def zBo (z : Int) : Int × Int := if z > 4611686018427387904 ∨ z < -4611686018427387904 then (0, 41) else (z, 0)
theorem zLk (z : Int) (h : ¬ (-9223372036854775808 ≤ z ∧ z ≤ 9223372036854775807)) : zBo z = (0, 41) := by
 rw [zBo, if_pos (by omega)]
theorem vlow (z : Int) : (z / 18446744073709551616 = (IntKind.i64.wrap (z % 18446744073709551616)).fdiv (2 ^ min 63 IntKind.i64.bits) ↔ -9223372036854775808 ≤ z ∧ z ≤ 9223372036854775807) ∧
  ((-9223372036854775808 ≤ z ∧ z ≤ 9223372036854775807) → IntKind.i64.wrap (z % 18446744073709551616) = z) := by
 rw [shr63, IntKind.wrap_i64]
 constructor
 ·constructor <;> intro h <;> omega
 ·intro h; omega
theorem c_told (z : Int) (w0 : World) :
  Calls Tryz.prog 263 [.agg (zHa z).toArray].toArray w0 (Ret (.tuple #[.int .i64 (zBo z).1, .int .i64 (zBo z).2]) w0) := by
 refine enter [.tmp 2, .tmp 3] Tryz.func263 rfl Tryz.ntmps263 rfl rfl ?_
 have H := zH w0
 repeat' (first | refine y1 sg ?_ | refine y3 ?_ | refine y5 sg ?_ | refine y7 sg H ?_ | (refine y9 H ?_; intro b w H) | refine y13 ?_ | refine y14 ?_ | (refine y17 ?_ ?_; all_goals intro h) | (with_reducible first | apply zB | apply zD | apply zC | apply zF | apply zG | apply zO) | refine zA ?_ | refine y21 ?_ | (refine y23 ?_ ?_; all_goals intro h) | fail)
 ·rw [zLk z (fun h1 => by rw [(vlow z).1.2 h1] at h; simp at h)]; exact zCO rfl rfl H.cl rfl
 all_goals
  have hz := (vlow z).1.1 (by simpa using ‹(z / 18446744073709551616 != (IntKind.i64.wrap (z % 18446744073709551616)).fdiv (2 ^ min 63 IntKind.i64.bits)) = false›)
  have hv := (vlow z).2 hz
  simp only [hv] at *
 ·exact zCO rfl rfl H.cl (by rw [zBo, if_pos (.inl (of_decide_eq_true h))])
 ·exact zCO rfl rfl H.cl (by rw [zBo, if_pos (.inr (of_decide_eq_true h))])
 ·refine zCO rfl rfl H.cl ?_
  rw [zBo, if_neg (fun hc => hc.elim (fun h3 => absurd h3 (of_decide_eq_false ‹decide (z > 4611686018427387904) = false›)) (fun h3 => absurd h3 (of_decide_eq_false ‹decide (z < -4611686018427387904) = false›)))]
theorem c_Sum {a : Option Addr} {cap : Nat} (l : List Int) (hl : I64 l) (hlen : l.length ≤ 1048576) {F : zI} (w0 : World) (hF : Mem w0 F) (hs : Ints F a cap l) :
  Calls Tryz.prog 221 [.slice a l.length cap].toArray w0 (Ret (.tuple #[.int .i64 (zBo (zCQ l l.length)).1, .int .i64 (zBo (zCQ l l.length)).2]) w0) := by
 obtain ⟨hn, hc, b0, off, cs, T, fr, hs⟩ := hs
 refine enter [.tmp 2, .tmp 3] Tryz.func221 rfl Tryz.ntmps221 rfl rfl ?_
 have H := zH w0
 repeat' (first | refine y1 sg ?_ | refine y3 ?_ | (refine y10 sg H ?_; intro b w H) | (with_reducible first | apply zB | apply zD | apply zC | apply zE) | refine zA ?_ | fail)
 refine zK [(6, 6), (9, 16)] (fun k : Nat => [(9, .int .i64 (k : Int))]) (fun k w => k ≤ l.length ∧ St w0 [cb _ (zHa (zCQ l k)) 284] w) (fun k => l.length - k) 0 ⟨rfl, trivial⟩ ⟨Nat.zero_le _, H⟩ ?_
 clear H
 rintro k g w ⟨hk, H⟩
 have hb := zNZ l hl k
 have hb2 := hl k
 repeat' (first | refine y1 sg ?_ | (with_reducible first | apply zB | apply zD | apply zC) | refine zA ?_ | fail)
 refine zM rfl (fun h => ?_) (fun h => ?_)
 ·have hlt : k < l.length := by simpa using h
  repeat' (first | refine y1 sg ?_ | refine y3 ?_ | refine y7 sg H ?_ | (refine y11 sg H ?_; intro w H) | (refine y40 sg (hs) ?_ ?_ ?_; (omega); (omega)) | refine z13 (Yq.loadB1 sg hs (H.memF hF) rfl rfl rfl rfl hlt rfl) ?_ | (refine' y30 ent262 ?_ ?_; rotate_left; exact c_plus (zCQ l k) (l.getD k 0) _ (by omega) (by omega) hb2.1 hb2.2; intro w hcl; replace H := H.ext hcl; clear hcl) | (with_reducible first | apply zB | apply zD | apply zC | apply zE | apply zG) | refine zA ?_ | fail)
  refine zJ (k + 1) rfl ⟨zT (by omega), trivial⟩ ⟨hlt, H⟩ (by omega)
 ·have hkn : k = l.length := by simp at h; omega
  subst hkn
  repeat' (first | refine y1 sg ?_ | refine y3 ?_ | refine y7 sg H ?_ | (refine' y30 ent263 ?_ ?_; rotate_left; exact c_told (zCQ l l.length) _; intro w hcl; replace H := H.ext hcl; clear hcl) | (with_reducible first | apply zB | apply zD | apply zC | apply zF | apply zL | apply zS) | refine zA ?_ | refine y24 ?_ | fail)
  exact zCO rfl rfl H.cl rfl
def zGf (a b : Int) : Int × Int := zBo (a + b)
theorem Ints.two {F : zI} {b : Nat} {x y : Int} {T : TypeId} {fr : Nat × Nat} (h : (b, Obj.cells [Value.int .i64 x, Value.int .i64 y].toArray T fr) ∈ F) : Ints F (some ⟨b, 0, none⟩) 2 [x, y] :=
 ⟨Nat.le_refl _, (by show 2 ≤ 140737488355328; omega), b, 0, _, T, fr, fun _ => ⟨rfl, h, fun j hj => by
  have : j = 0 ∨ j = 1 := by simp at hj; omega
  rcases this with rfl | rfl <;> exact ⟨by simp, rfl⟩⟩⟩
theorem c_Add (x y : Int) (w0 : World) (h1 : -9223372036854775808 ≤ x) (h2 : x ≤ 9223372036854775807) (h3 : -9223372036854775808 ≤ y) (h4 : y ≤ 9223372036854775807) :
  Calls Tryz.prog 181 [.int .i64 x, .int .i64 y].toArray w0 (Ret (.tuple #[.int .i64 (zGf x y).1, .int .i64 (zGf x y).2]) w0) := by
 have hI : I64 [x, y] := by
  intro j
  rcases j with _ | _ | j
  ·exact ⟨h1, h2⟩
  ·exact ⟨h3, h4⟩
  ·simp
 have e : zCQ [x, y] [x, y].length = x + y := by simp [zCQ]
 refine enter [.tmp 4, .tmp 5] Tryz.func181 rfl Tryz.ntmps181 rfl rfl ?_
 have H := zH w0
 repeat' (first | refine y1 sg ?_ | refine y3 ?_ | (refine z14 sg H ?_; intro b w H) | (refine' y30 zM0 ?_ ?_; rotate_left; exact c_Sum [x, y] hI (by show 2 ≤ 1048576; omega) _ (H.mem) (Ints.two (List.Mem.head _)); intro w hcl; replace H := H.ext hcl; clear hcl) | (with_reducible first | apply zB | apply zD | apply zC | apply zF) | refine zA ?_ | fail)
 refine zCO rfl rfl H.cl ?_
 rw [e]; rfl
end Go.Proofs.YtggolnppckpdlaaGreat
