/- Texts of ours, joined: the steps of the proof, or the claim's theorem. -/
import Derived.Test.YtggolnppckpdlaaGreatT26
import Derived.Test.YtggolnppckpdlaaGreatT27
import Derived.Test.YtggolnppckpdlaaGreatT28
import Derived.Test.YtggolnppckpdlaaGreatT38
import Derived.Test.YtggolnppckpdlaaGreatT42
import Derived.Test.YtggolnppckpdlaaGreatT43
set_option linter.unusedSimpArgs false
set_option linter.unusedVariables false
namespace Go.Proofs.YtggolnppckpdlaaGreat
open Go Go.Sk Go.RowKit
def tw (l : List P3) (x : Int × Int) (z : Int) : Int := l.foldl (fun a y => if zBT y = x then IntKind.i64.wrap (a + y.2.2) else a) z
theorem zII (l m : List P3) (x : Int × Int) (z : Int) : tw (l ++ m) x z = tw m x (tw l x z) := by unfold tw; exact List.foldl_append
theorem zIJ (y : P3) (a q : Int) : zBT y = (a, q) ↔ y.1 = a ∧ y.2.1 = q := by unfold zBT; exact Prod.mk.injEq _ _ _ _ |>.to_iff
theorem zI2 (l : List Odr) (a q : Int) (h : ∀ j, j < l.length → (zA5 (od_ l j)).2 > 0) : ∀ k, k ≤ l.length → zCP l a q k = tw ((l.take k).flatMap zAY) (a, q) 0
 | 0, _ => by simp [zCP, tw]
 | k + 1, hk => by
   have hp := h k (by omega)
   have hf := zD1 zAY l default (i := k) (by omega)
   have hd : l.getD k default = od_ l k := rfl
   rw [hf, zII, ← zI2 l a q h k (by omega), hd]
   have : zAY (od_ l k) = [((od_ l k).acct, (zA5 (od_ l k)).1, (zA5 (od_ l k)).2)] := if_pos hp
   rw [this]
   have e : zCP l a q (k + 1) = if (od_ l k).acct = a ∧ (zA5 (od_ l k)).1 = q then IntKind.i64.wrap (zCP l a q k + (zA5 (od_ l k)).2) else zCP l a q k := rfl
   rw [e]
   generalize zCP l a q k = z
   show _ = if zBT _ = (a, q) then _ else _
   simp only [zIJ]
theorem zI3 (l : List Bid) (a q z : Int) : ∀ k, k ≤ l.length → zCQ l a q z k = tw ((l.take k).map fun b => (b.acct, 0, b.amount)) (a, q) z
 | 0, _ => by simp [zCQ, tw]
 | k + 1, hk => by
   have ht : l.take (k + 1) = l.take k ++ [l.getD k default] := by
    rw [List.take_add_one, List.getD_eq_getElem?_getD, List.getElem?_eq_getElem (by omega)]; rfl
   rw [ht, List.map_append, zII, ← zI3 l a q z k (by omega)]
   have e : zCQ l a q z (k + 1) = if (l.getD k default).acct = a ∧ q = 0 then IntKind.i64.wrap (zCQ l a q z k + (l.getD k default).amount) else zCQ l a q z k := rfl
   rw [e]
   generalize zCQ l a q z k = z
   show _ = if zBT _ = (a, q) then _ else _
   simp only [zIJ]
   by_cases h : (l.getD k default).acct = a ∧ q = 0
   ·rw [if_pos h, if_pos ⟨h.1, h.2.symm⟩]
   ·rw [if_neg h, if_neg (fun g => h ⟨g.1, g.2.symm⟩)]
theorem zI4 (l : List Auc) (a q z : Int) : ∀ k, k ≤ l.length → zCt l a q z k = tw ((l.take k).flatMap zAH) (a, q) z
 | 0, _ => by simp [zCt, tw]
 | k + 1, hk => by
   have hf := zD1 zAH l default (i := k) (by omega)
   rw [hf, zII, ← zI4 l a q z k (by omega)]
   generalize hu : zCt l a q z k = u
   show (if zBg (l.getD k default) = true then _ else _) = _
   rw [hu]
   unfold zAH
   split
   ·have hb := zI3 (l.getD k default).bids a q (if (l.getD k default).seller = a ∧ (l.getD k default).inst = q then IntKind.i64.wrap (u + (l.getD k default).qty) else u) (l.getD k default).bids.length (Nat.le_refl _)
    rw [List.take_length] at hb
    rw [hb]
    show _ = tw _ _ (if zBT _ = (a, q) then _ else _)
    simp only [zIJ]
   ·rfl
theorem zOk (s : Sta) (a q : Int) (h : ∀ j, j < s.orders.length → (zA5 (od_ s.orders j)).2 > 0) : zFk s a q = zFL (zo s) (a, q) := by
 unfold zFk
 rw [zI4 _ _ _ _ _ (Nat.le_refl _), zI2 _ _ _ h _ (Nat.le_refl _), List.take_length, List.take_length, ← zII]
 rfl
theorem zKT (x : Int × Int) : ∀ (l : List P3) (z : Int), 0 ≤ z → z + (l.length : Int) * 1125899906842624 < 9223372036854775808 → (∀ y, y ∈ l → 0 ≤ y.2.2 ∧ y.2.2 ≤ 1125899906842624) → z ≤ tw l x z ∧ ∀ y, y ∈ l → zBT y = x → y.2.2 ≤ tw l x z
 | [], z, _, _, _ => ⟨Int.le_refl _, fun y hy => absurd hy (List.not_mem_nil)⟩
 | y :: t, z, h0, h1, hb => by
   obtain ⟨b0, b1⟩ := hb y (List.mem_cons_self ..)
   rw [List.length_cons] at h1
   have hcast : ((t.length + 1 : Nat) : Int) = (t.length : Int) + 1 := by omega
   rw [hcast, Int.add_mul] at h1
   have hstep : tw (y :: t) x z = tw t x (if zBT y = x then IntKind.i64.wrap (z + y.2.2) else z) := rfl
   by_cases hk : zBT y = x
   ·rw [if_pos hk] at hstep
    have hw : IntKind.i64.wrap (z + y.2.2) = z + y.2.2 := w64 (by omega) (by omega)
    rw [hw] at hstep
    obtain ⟨i1, i2⟩ := zKT x t (z + y.2.2) (by omega) (by omega) (fun y hy => hb y (List.mem_cons_of_mem _ hy))
    rw [hstep]
    refine ⟨by omega, fun y' hy' hk' => ?_⟩
    rcases List.mem_cons.1 hy' with rfl | hy'
    ·omega
    ·exact i2 y' hy' hk'
   ·rw [if_neg hk] at hstep
    obtain ⟨i1, i2⟩ := zKT x t z h0 (by omega) (fun y hy => hb y (List.mem_cons_of_mem _ hy))
    rw [hstep]
    refine ⟨i1, fun y' hy' hk' => ?_⟩
    rcases List.mem_cons.1 hy' with rfl | hy'
    ·exact absurd hk' hk
    ·exact i2 y' hy' hk'
theorem zI5 {s : Sta} (h : zAs s = true) : s.orders.length ≤ 128 ∧ ∀ j, j < s.orders.length → ((zA5 (od_ s.orders j)).2 > 0 ∧ (zA5 (od_ s.orders j)).2 ≤ 1125899906842624) ∧ (0 ≤ (od_ s.orders j).acct ∧ (od_ s.orders j).acct ≤ 64) ∧ 0 ≤ (zA5 (od_ s.orders j)).1 ∧ (zA5 (od_ s.orders j)).1 ≤ 16 := by
 obtain ⟨h1, h2⟩ := zBR.1 (zB2.1 h).1
 refine ⟨h1, fun j hj => ?_⟩
 obtain ⟨hm, _⟩ := h2 j hj
 have hm' := hm
 obtain ⟨_, g1, g2, _, g4, g5⟩ := hm
 unfold zA5
 rw [if_pos ((zBQ _).2 hm')]
 split
 ·have a1 : 1 * 1 ≤ (od_ s.orders j).price * (od_ s.orders j).left := Int.mul_le_mul g4.1 g5.1 (by omega) (by omega)
  have a2 : (od_ s.orders j).price * (od_ s.orders j).left ≤ 1073741824 * 1048576 := Int.mul_le_mul g4.2 g5.2 (by omega) (by omega)
  refine ⟨⟨?_, ?_⟩, by omega, ?_, ?_⟩ <;> simp only <;> omega
 ·refine ⟨⟨?_, ?_⟩, by omega, ?_, ?_⟩ <;> simp only <;> omega
theorem zOl {x : Auc} (h : zBg x = true) : x.bids.length ≤ 16 ∧ (1 ≤ x.seller ∧ x.seller ≤ 64) ∧ (1 ≤ x.inst ∧ x.inst ≤ 16) ∧ (1 ≤ x.qty ∧ x.qty ≤ 1048576) ∧ ∀ j, j < x.bids.length → (1 ≤ (x.bids.getD j default).acct ∧ (x.bids.getD j default).acct ≤ 64) ∧ 1 ≤ (x.bids.getD j default).amount ∧ (x.bids.getD j default).amount ≤ 1125899906842624 := by
 obtain ⟨a1, a2, a3, a4, a5, a6, a7, a8⟩ := zCU h
 unfold zr at a1 a2 a3 a4
 simp only [Bool.and_eq_true, decide_eq_true_eq] at a1 a2 a3 a4
 refine ⟨?_, by omega, by omega, by omega, fun j hj => ?_⟩
 ·unfold zAr at a7
  split at a7
  ·unfold zEq at a7
   simp only [Bool.and_eq_true, decide_eq_true_eq] at a7
   omega
  ·unfold zEE at a7
   simp only [Bool.and_eq_true, decide_eq_true_eq] at a7
   omega
 ·unfold zCJ at a8
  rcases zAC (zA8 x) x.bids.length with ⟨i, h1, h2, h3, h4⟩ | ⟨h1, h2⟩
  ·rw [h4] at a8; simp only [decide_eq_true_eq] at a8; omega
  ·have := h1 j hj
   unfold zA8 zr at this
   simp only [Bool.or_eq_false_iff, Bool.not_eq_false', Bool.and_eq_true, decide_eq_true_eq] at this
   omega
theorem zQa {l : List Auc} (h : zAi l = true) {k : Nat} (hk : k < l.length) : zBg (l.getD k default) = true := by
 unfold zAi at h
 simp only [Bool.and_eq_true, decide_eq_true_eq] at h
 rcases zAC (zA9 l) l.length with ⟨j, h1, h2, h3, h4⟩ | ⟨h1, h2⟩
 ·omega
 ·have := h1 k hk
  unfold zA9 at this
  simp only [Bool.or_eq_false_iff, Bool.not_eq_false'] at this
  exact this.2
theorem zFZ {α : Type} (f : α → List P3) (n : Nat) : ∀ (l : List α), (∀ x, x ∈ l → (f x).length ≤ n) → (l.flatMap f).length ≤ l.length * n
 | [], _ => by simp
 | x :: t, h => by
   rw [List.flatMap_cons, List.length_append, List.length_cons, Nat.add_mul]
   have := zFZ f n t (fun y hy => h y (List.mem_cons_of_mem _ hy))
   have := h x (List.mem_cons_self ..)
   omega
def PartOk (y : P3) : Prop := (0 < y.2.2 ∧ y.2.2 ≤ 1125899906842624) ∧ (0 ≤ y.1 ∧ y.1 ≤ 64) ∧ 0 ≤ y.2.1 ∧ y.2.1 ≤ 16
theorem zI6 {α : Type} {l : List α} {x : α} (d : α) (h : x ∈ l) : ∃ k, k < l.length ∧ l.getD k d = x := zFN h
theorem zOm {s : Sta} (h4 : zAs s = true) (h5 : zBq s = true) : (zo s).length ≤ 1024 ∧ ∀ y, y ∈ zo s → PartOk y := by
 obtain ⟨o1, o2⟩ := zI5 h4
 have hma := (zDW.1 h5).1
 obtain ⟨u1, u2⟩ := zMM hma
 have hao : ∀ x, x ∈ s.orders → (zAY x).length ≤ 1 := fun x _ => by unfold zAY; split <;> simp
 have hau : ∀ x, x ∈ s.aucs → (zAH x).length ≤ 17 := fun x hx => by
  obtain ⟨k, hk, rfl⟩ := zI6 default hx
  have := u2 k hk
  unfold zAH
  split
  ·rw [List.length_cons, List.length_map]; omega
  ·simp
 refine ⟨?_, fun y hy => ?_⟩
 ·unfold zo
  rw [List.length_append]
  have := zFZ zAY 1 s.orders hao
  have := zFZ zAH 17 s.aucs hau
  omega
 ·unfold zo at hy
  rcases List.mem_append.1 hy with hy | hy
  ·obtain ⟨x, hx, hy⟩ := List.mem_flatMap.1 hy
   obtain ⟨k, hk, rfl⟩ := zI6 default hx
   obtain ⟨⟨g1, g2⟩, g3, g4⟩ := o2 k hk
   have hd : s.orders.getD k default = od_ s.orders k := rfl
   rw [hd] at hy
   unfold zAY at hy
   rw [if_pos g1, List.mem_singleton] at hy
   subst hy
   exact ⟨⟨g1, g2⟩, g3, g4⟩
  ·obtain ⟨x, hx, hy⟩ := List.mem_flatMap.1 hy
   obtain ⟨k, hk, rfl⟩ := zI6 default hx
   have hm := zQa hma hk
   obtain ⟨_, b1, b2, b3, b4⟩ := zOl hm
   unfold zAH at hy
   rw [if_pos hm] at hy
   rcases List.mem_cons.1 hy with rfl | hy
   ·refine ⟨⟨?_, ?_⟩, ⟨?_, ?_⟩, ?_, ?_⟩ <;> simp only <;> omega
   ·obtain ⟨z, hz, rfl⟩ := List.mem_map.1 hy
    obtain ⟨j, hj, rfl⟩ := zI6 default hz
    obtain ⟨c1, c2⟩ := b4 j hj
    refine ⟨⟨?_, ?_⟩, ⟨?_, ?_⟩, ?_, ?_⟩ <;> simp only <;> omega
theorem zIK {l : List Row4} (h : RowsP l l.length) : ∀ k, k < l.length → ∀ j, j < k → LtR (rw_ l j) (rw_ l k)
 | 0, _, j, hj => absurd hj (Nat.not_lt_zero j)
 | k + 1, hk, j, hj => by
   have h1 := (h (k + 1) hk).2
   rcases h1 with h1 | h1
   ·omega
   ·rw [Nat.add_sub_cancel] at h1
    by_cases hjk : j = k
    ·rw [hjk]; exact h1
    ·have h2 := zIK h k (by omega) j (by omega)
     unfold LtR at *
     omega
theorem zIL {l : List Row4} {k : Nat} {x : Int × Int} (hk : k ≤ l.length) : x ∈ zB1 l k ↔ ∃ j, j < k ∧ zD8 (rw_ l j) = x := by
 unfold zB1
 rw [List.mem_map]
 constructor
 ·rintro ⟨r, hr, rfl⟩
  obtain ⟨j, hj, rfl⟩ := zI6 default hr
  rw [List.length_take] at hj
  refine ⟨j, by omega, ?_⟩
  have : (l.take k).getD j default = rw_ l j := by
   unfold rw_
   rw [List.getD_eq_getElem?_getD, List.getElem?_take_of_lt (by omega), List.getD_eq_getElem?_getD, List.getElem?_eq_getElem (by omega)]
  rw [this]
 ·rintro ⟨j, hj, rfl⟩
  refine ⟨rw_ l j, ?_, rfl⟩
  rw [List.mem_take_iff_getElem]
  refine ⟨j, by omega, ?_⟩
  unfold rw_
  rw [List.getD_eq_getElem?_getD, List.getElem?_eq_getElem (by omega)]
  rfl
theorem zI7 {l : List Row4} (h : RowsP l l.length) {k : Nat} (hk : k < l.length) : zGs l (rw_ l k).acct (rw_ l k).asset = rw_ l k := by
 unfold zGs
 rw [zLS (p := fun r => r.acct == (rw_ l k).acct && r.asset == (rw_ l k).asset) hk (fun j hj => by
  have := zIK h k hk j hj
  unfold LtR at this
  have hn : ¬ ((rw_ l j).acct = (rw_ l k).acct ∧ (rw_ l j).asset = (rw_ l k).asset) := by omega
  simpa using fun a b => hn ⟨a, b⟩) (by simp)]
 rfl
theorem zHc {l : List Row4} {a q : Int} (h : ¬ (a, q) ∈ zB1 l l.length) : (zGs l a q).held = 0 := by
 unfold zGs
 rw [zHa (p := fun r => r.acct == a && r.asset == q) (fun j hj => by
  cases e : ((rw_ l j).acct == a && (rw_ l j).asset == q)
  ·rfl
  ·exfalso
   simp only [Bool.and_eq_true, beq_iff_eq] at e
   exact h ((zIL (Nat.le_refl _)).2 ⟨j, hj, by unfold zD8; rw [e.1, e.2]⟩))]
 rfl
theorem zI8 {s : Sta} (h3 : zCN s = true) (h4 : zAs s = true) (h5 : zBq s = true) : zDq s = zFl s := by
 obtain ⟨pl, po⟩ := zOm h4 h5
 have hR := (zBZ.1 (zCf.1 h3).1).1
 have hH : ∀ a q, zFk s a q = zFL (zo s) (a, q) := fun a q => zOk s a q fun j hj => ((zI5 h4).2 j hj).1.1
 have hat : ∀ k, k < s.rows.length → (zCz s k = true ↔ zFL (zo s) (zD8 (rw_ s.rows k)) = (rw_ s.rows k).held) := fun k hk => by
  unfold zCz
  rw [if_neg, beq_iff_eq]
  rw [zIL (by omega)]
  rintro ⟨j, hj, he⟩
  have := zIK hR k hk j hj
  unfold LtR at this
  unfold zD8 at he
  have e1 := (Prod.mk.injEq _ _ _ _).mp he
  omega
 rw [Bool.eq_iff_iff, zFX]
 unfold zDq zHb
 simp only [Bool.and_eq_true, List.all_eq_true, List.mem_range, decide_eq_true_eq, beq_iff_eq]
 constructor
 ·rintro ⟨q1, q2⟩ a ha q hq
  rw [hH]
  by_cases hm : ((a : Int), (q : Int)) ∈ zB1 s.rows s.rows.length
  ·obtain ⟨k, hk, he⟩ := (zIL (Nat.le_refl _)).1 hm
   have h1 := (hat k hk).1 (q1 k hk)
   have h2 := zI7 hR hk
   rw [he] at h1
   unfold zD8 at he
   have e1 := (Prod.mk.injEq _ _ _ _).mp he
   rw [e1.1, e1.2] at h2
   rw [h2, h1]
  ·rw [zHc hm]
   refine (zHL ?_).symm
   unfold zGX
   rw [List.any_eq_false]
   intro y hy he
   exact hm (of_decide_eq_true he ▸ q2 y hy)
 ·intro hg
  refine ⟨fun k hk => (hat k hk).2 ?_, fun y hy => ?_⟩
  ·obtain ⟨⟨g1, g2, g3, g4⟩, _⟩ := (hR k hk).1
   have h1 := hg (rw_ s.rows k).acct.toNat (by omega) (rw_ s.rows k).asset.toNat (by omega)
   rw [Int.toNat_of_nonneg g1, Int.toNat_of_nonneg g3, zI7 hR hk, hH] at h1
   exact h1.symm
  ·obtain ⟨⟨y1, _⟩, ⟨y3, y4⟩, y5, y6⟩ := po y hy
   refine Classical.byContradiction fun hm => ?_
   have h1 := hg y.1.toNat (by omega) y.2.1.toNat (by omega)
   rw [Int.toNat_of_nonneg y3, Int.toNat_of_nonneg y5, hH] at h1
   have h2 : (zGs s.rows y.1 y.2.1).held = 0 := zHc (a := y.1) (q := y.2.1) hm
   have h3 := (zKT (y.1, y.2.1) (zo s) 0 (Int.le_refl _) (by omega) (fun z hz => ⟨by have := (po z hz).1; omega, by have := (po z hz).1; omega⟩)).2 y hy rfl
   have h4 : tw (zo s) (y.1, y.2.1) 0 = zFL (zo s) (y.1, y.2.1) := rfl
   omega
def rOk (s : Sta) (k : Nat) : Bool := if k = 6 then zFl s else zDf s k
theorem zOn (s : Sta) : zBJ (rOk s) = zBJ (zDf s) := by
 have e : ∀ k, k < 6 → rOk s k = zDf s k := fun k hk => if_neg (by omega)
 rw [zFY, zFY, e 0 (by decide), e 1 (by decide), e 2 (by decide), e 3 (by decide), e 4 (by decide), e 5 (by decide)]
 by_cases h3 : zDf s 3 = true
 ·by_cases h4 : zDf s 4 = true
  ·by_cases h5 : zDf s 5 = true
   ·have : rOk s 6 = zDf s 6 := (zI8 h3 h4 h5).symm
    rw [this]
   ·simp [h5]
  ·simp [h4]
 ·simp [h3]
end Go.Proofs.YtggolnppckpdlaaGreat
set_option linter.unusedSimpArgs false
set_option linter.unusedVariables false
namespace Go.Proofs.YtggolnppckpdlaaGreat
open Go Go.Sk Go.RowKit
attribute [local irreducible] Go.Calls
theorem zOo {F : zI} (s : Sta) (p : SPt) (hW : StaW s) (w0 : World) (hF : Mem w0 F) (hs : StaM F s p) :
  Calls Tryz.prog 64 [.agg (s.cells p).toArray].toArray w0 (Ret (.string (zBJ (zDf s))) w0) := by
 rw [← zOn]
 exact zKS s p (rOk s) rfl (fun w hM => zIi s p w hM hs) (fun w hM => zGY s p w hM hs) (fun w hM => zPg s p hW.rw w hM hs) (fun w hM h => zL6 s p h w hM hs) (fun w hM => zI1 s p w hM hs) (fun w hM => zQZ s p w hM hs) w0 hF
end Go.Proofs.YtggolnppckpdlaaGreat
set_option linter.unusedSimpArgs false
set_option linter.unusedVariables false
namespace Go.Proofs.YtggolnppckpdlaaGreat
open Go Go.Sk Go.RowKit
attribute [local irreducible] Go.Calls
theorem zKU {F : zI} {a : Option Addr} {cap : Nat} (l : List Ln) (n : Nat) (hn : n ≤ l.length) (acct : Int) (w0 : World) (hF : Mem w0 F) (hs : SlA F 5 a l.length cap (lnl l)) :
  Calls Tryz.prog 202 [.slice a n cap, .int .i64 acct].toArray w0 (Ret (.int .i64 (zAR l n acct)) w0) := by
 obtain ⟨hnc, hcb, b0, off, cs, T, fr, hs⟩ := hs
 have hs : SlB F 5 a n b0 off cs T fr (lnl l) := fun h0 => ⟨(hs (by omega)).1, (hs (by omega)).2.1, fun j hj => (hs (by omega)).2.2 j (by omega)⟩
 have hw1 : IntKind.i64.wrap ((n : Int) - 1) = (n : Int) - 1 := w64 (by omega) (by omega)
 refine enter [.tmp 4] Tryz.func202 rfl Tryz.ntmps202 rfl rfl ?_
 have H := zE w0
 repeat' (first | refine y1 sg ?_ | (with_reducible first | apply zB | apply zD | apply zC | apply zF) | refine zA ?_ | fail)
 refine zK [(4, 5), (9, 24)] (fun k : Nat => [(5, .int .i64 ((k : Int) - 1))]) (fun k w => St w0 [] w ∧ k ≤ n ∧ zAR l k acct = zAR l n acct) (fun k => k) n ⟨congrArg (Value.int .i64) hw1, trivial⟩ ⟨H, Nat.le_refl _, rfl⟩ ?_
 clear H
 rintro k gh w ⟨H, hk, hP⟩
 rcases k with _ | j
 ·have d1 : decide (((0 : Nat) : Int) - 1 ≥ 0) = false := rfl
  repeat' (first | refine y1 sg ?_ | (with_reducible first | apply zB | apply zD | apply zC | apply zG | apply zN | apply zW) | refine zA ?_ | refine y24 ?_ | refine y22 ?_ | fail)
  exact zO rfl H.cl (congrArg (Value.int .i64) hP)
 ·have d1 : decide (((j + 1 : Nat) : Int) - 1 ≥ 0) = true := decide_eq_true (by omega)
  have hj1 : ((j + 1 : Nat) : Int) - 1 = (j : Int) := by omega
  rw [hj1] at d1 ⊢
  have hu : zAR l (j + 1) acct = if (ln_ l j).acct = acct then (ln_ l j).bal else zAR l j acct := by
   show (if acct = (ln_ l j).acct then (ln_ l j).bal else zAR l j acct) = _
   by_cases h : acct = (ln_ l j).acct
   ·rw [if_pos h, if_pos h.symm]
   ·rw [if_neg h, if_neg (fun e => h e.symm)]
  repeat' (first | refine y1 sg ?_ | refine y3 ?_ | (refine y40 sg (hs) ?_ ?_ ?_; (omega); (omega)) | (refine y44 sg (hs) ((H.memF hF)) ?_ ?_; (omega)) | (with_reducible first | apply zB | apply zD | apply zC | apply zF | apply zG | apply zH | apply zP | apply za) | refine zA ?_ | refine y21 ?_ | (refine y23 ?_ ?_; all_goals (intro h; try (exfalso; first | ((rw [d1] at h; cases h); done)))) | fail)
  all_goals first
   | exact zO rfl H.cl (congrArg (Value.int .i64) (by rw [← hP, hu, if_pos (eqI h)]))
   | exact zM j rfl ⟨congrArg (Value.int .i64) (w64 (by omega) (by omega)), trivial⟩ ⟨H, by omega, by rw [← hP, hu, if_neg (neI h)]⟩ (by omega)
end Go.Proofs.YtggolnppckpdlaaGreat
set_option linter.unusedSimpArgs false
set_option linter.unusedVariables false
namespace Go.Proofs.YtggolnppckpdlaaGreat
open Go Go.Sk Go.RowKit
attribute [local irreducible] Go.Calls
theorem zAe (n m : Int) (w : World) : Calls Tryz.prog 201 [.int .i64 n, .int .i64 m].toArray w (Ret (.bool (zd n 1 m)) w) := by
 refine enter [.tmp 4] Tryz.func201 rfl Tryz.ntmps201 rfl rfl ?_
 have H := zE w
 repeat' (first | refine y1 sg ?_ | refine y5 sg ?_ | refine y13 ?_ | refine y14 ?_ | (refine y17 ?_ ?_; all_goals intro h) | (with_reducible first | apply zB | apply zD | apply zC | apply zG) | refine zA ?_ | fail)
 all_goals simp only [decide_eq_true_eq, decide_eq_false_iff_not, ge_iff_le] at *
 all_goals exact zO rfl H.cl (congrArg Value.bool (by
  rw [Bool.eq_iff_iff, zAF]; first | (rw [decide_eq_true_eq]; omega) | (constructor; (intro hh; first | omega | cases hh); (intro hh; omega))))
theorem zI9 (x y : Int) : zFH x y < 0 ↔ x < y := by
 unfold zFH
 repeat' split
 all_goals omega
def zLT (l : List Opn) (k i : Nat) : Prop := (op_ l k).id ≠ (op_ l i).id ∧ (op_ l k).acct ≤ (op_ l i).acct ∧ ((op_ l k).acct = (op_ l i).acct → (op_ l k).id ≤ (op_ l i).id)
theorem zGu {l : List Opn} (h : ∀ k, k < l.length → 0 < k → cmpO (op_ l (k - 1)) (op_ l k) < 0) : ∀ i k, i < l.length → k < i → (op_ l k).acct < (op_ l i).acct ∨ ((op_ l k).acct = (op_ l i).acct ∧ (op_ l k).id < (op_ l i).id)
 | 0, k, _, hk => absurd hk (Nat.not_lt_zero k)
 | i + 1, k, hi, hk => by
   have h1 := (zEn _ _ _ _).1 (h (i + 1) hi (by omega))
   rw [Nat.add_sub_cancel] at h1
   by_cases hki : k = i
   ·subst hki; exact h1
   ·have h2 := zGu h i k (by omega) (by omega)
    omega
theorem zMU {l : List Opn} {m : List Lt} : zEI l m = true ↔ l.length ≤ 128 ∧ m.length ≤ 32 ∧ (∀ i, i < l.length → zBr (op_ l i) = true ∧ ∀ k, k < i → zLT l k i) ∧ (∀ i, i < m.length → zCg (lt_ m i) = true ∧ (0 < i → (lt_ m (i - 1)).id < (lt_ m i).id)) := by
 rw [zB9]
 constructor
 ·rintro ⟨h1, h2, h3, h4, h5, h6, h7⟩
  refine ⟨h1, h2, fun i hi => ⟨h5 i hi, fun k hk => ?_⟩, fun i hi => ⟨h7 i hi, fun h0 => ?_⟩⟩
  ·have hp := zGu (zD2.1 h3) i k hi hk
   refine ⟨fun he => ?_, by omega, by omega⟩
   have hn := (List.nodup_iff_pairwise_ne.1 h6)
   have := List.pairwise_iff_getElem.1 hn k i (by rw [List.length_map]; omega) (by rw [List.length_map]; exact hi) hk
   apply this
   rw [List.getElem_map, List.getElem_map]
   have e1 : op_ l k = l[k] := by unfold op_; rw [List.getD_eq_getElem?_getD, List.getElem?_eq_getElem (by omega)]; rfl
   have e2 : op_ l i = l[i] := by unfold op_; rw [List.getD_eq_getElem?_getD, List.getElem?_eq_getElem hi]; rfl
   rw [← e1, ← e2]; exact he
  ·have := zD3.1 h4 i hi h0
   exact (zI9 _ _).1 this
 ·rintro ⟨h1, h2, h3, h4⟩
  refine ⟨h1, h2, zD2.2 fun k hk h0 => ?_, zD3.2 fun k hk h0 => (zI9 _ _).2 ((h4 k hk).2 h0), fun k hk => (h3 k hk).1, ?_, fun k hk => (h4 k hk).1⟩
  ·have := (h3 k hk).2 (k - 1) (by omega)
   obtain ⟨a, b, c⟩ := this
   exact (zEn _ _ _ _).2 (by omega)
  ·rw [List.nodup_iff_pairwise_ne, List.pairwise_iff_getElem]
   intro k i hk hi hki
   rw [List.length_map] at hk hi
   rw [List.getElem_map, List.getElem_map]
   have e1 : op_ l k = l[k] := by unfold op_; rw [List.getD_eq_getElem?_getD, List.getElem?_eq_getElem hk]; rfl
   have e2 : op_ l i = l[i] := by unfold op_; rw [List.getD_eq_getElem?_getD, List.getElem?_eq_getElem hi]; rfl
   have := ((h3 i hi).2 k hki).1
   rw [e1, e2] at this
   exact this
end Go.Proofs.YtggolnppckpdlaaGreat
