/- Texts of ours, joined: the steps of the proof, or the claim's theorem. -/
import Derived.Test.YtggolnppckpdlaaGreatR19
import Derived.Test.YtggolnppckpdlaaGreatR28
import Derived.Test.YtggolnppckpdlaaGreatR32
import Derived.Test.YtggolnppckpdlaaGreatR37
import Derived.Test.YtggolnppckpdlaaGreatR41
import Derived.Test.YtggolnppckpdlaaGreatR45
import Derived.Test.YtggolnppckpdlaaGreatR46
import Derived.Test.YtggolnppckpdlaaGreatR47
set_option linter.unusedSimpArgs false
set_option linter.unusedVariables false
namespace Go.Proofs.YtggolnppckpdlaaGreat
open Go Go.Sk Go.RowKit
def tw (l : List P3) (x : Int × Int) (z : Int) : Int := l.foldl (fun a y => if zBN y = x then IntKind.i64.wrap (a + y.2.2) else a) z
theorem zH2 (l m : List P3) (x : Int × Int) (z : Int) : tw (l ++ m) x z = tw m x (tw l x z) := by unfold tw; exact List.foldl_append
theorem zH3 (y : P3) (a q : Int) : zBN y = (a, q) ↔ y.1 = a ∧ y.2.1 = q := by unfold zBN; exact Prod.mk.injEq _ _ _ _ |>.to_iff
theorem zI3 (l : List Odr) (a q : Int) (h : ∀ j, j < l.length → (zA1 (od_ l j)).2 > 0) : ∀ k, k ≤ l.length → zCI l a q k = tw ((l.take k).flatMap zAV) (a, q) 0
 | 0, _ => by simp [zCI, tw]
 | k + 1, hk => by
   have hp := h k (by omega)
   have hf := zDk zAV l default (i := k) (by omega)
   have hd : l.getD k default = od_ l k := rfl
   rw [hf, zH2, ← zI3 l a q h k (by omega), hd]
   have : zAV (od_ l k) = [((od_ l k).acct, (zA1 (od_ l k)).1, (zA1 (od_ l k)).2)] := if_pos hp
   rw [this]
   have e : zCI l a q (k + 1) = if (od_ l k).acct = a ∧ (zA1 (od_ l k)).1 = q then IntKind.i64.wrap (zCI l a q k + (zA1 (od_ l k)).2) else zCI l a q k := rfl
   rw [e]
   generalize zCI l a q k = z
   show _ = if zBN _ = (a, q) then _ else _
   simp only [zH3]
theorem zI4 (l : List Bid) (a q z : Int) : ∀ k, k ≤ l.length → zCJ l a q z k = tw ((l.take k).map fun b => (b.acct, 0, b.amount)) (a, q) z
 | 0, _ => by simp [zCJ, tw]
 | k + 1, hk => by
   have ht : l.take (k + 1) = l.take k ++ [l.getD k default] := by
    rw [List.take_add_one, List.getD_eq_getElem?_getD, List.getElem?_eq_getElem (by omega)]; rfl
   rw [ht, List.map_append, zH2, ← zI4 l a q z k (by omega)]
   have e : zCJ l a q z (k + 1) = if (l.getD k default).acct = a ∧ q = 0 then IntKind.i64.wrap (zCJ l a q z k + (l.getD k default).amount) else zCJ l a q z k := rfl
   rw [e]
   generalize zCJ l a q z k = z
   show _ = if zBN _ = (a, q) then _ else _
   simp only [zH3]
   by_cases h : (l.getD k default).acct = a ∧ q = 0
   ·rw [if_pos h, if_pos ⟨h.1, h.2.symm⟩]
   ·rw [if_neg h, if_neg (fun g => h ⟨g.1, g.2.symm⟩)]
theorem zI5 (l : List Auc) (a q z : Int) : ∀ k, k ≤ l.length → zCh l a q z k = tw ((l.take k).flatMap zAD) (a, q) z
 | 0, _ => by simp [zCh, tw]
 | k + 1, hk => by
   have hf := zDk zAD l default (i := k) (by omega)
   rw [hf, zH2, ← zI5 l a q z k (by omega)]
   generalize hu : zCh l a q z k = u
   show (if zBX (l.getD k default) = true then _ else _) = _
   rw [hu]
   unfold zAD
   split
   ·have hb := zI4 (l.getD k default).bids a q (if (l.getD k default).seller = a ∧ (l.getD k default).inst = q then IntKind.i64.wrap (u + (l.getD k default).qty) else u) (l.getD k default).bids.length (Nat.le_refl _)
    rw [List.take_length] at hb
    rw [hb]
    show _ = tw _ _ (if zBN _ = (a, q) then _ else _)
    simp only [zH3]
   ·rfl
theorem zOy (s : Sta) (a q : Int) (h : ∀ j, j < s.orders.length → (zA1 (od_ s.orders j)).2 > 0) : zFM s a q = zEz (zm s) (a, q) := by
 unfold zFM
 rw [zI5 _ _ _ _ _ (Nat.le_refl _), zI3 _ _ _ h _ (Nat.le_refl _), List.take_length, List.take_length, ← zH2]
 rfl
theorem zKT (x : Int × Int) : ∀ (l : List P3) (z : Int), 0 ≤ z → z + (l.length : Int) * 1125899906842624 < 9223372036854775808 → (∀ y, y ∈ l → 0 ≤ y.2.2 ∧ y.2.2 ≤ 1125899906842624) → z ≤ tw l x z ∧ ∀ y, y ∈ l → zBN y = x → y.2.2 ≤ tw l x z
 | [], z, _, _, _ => ⟨Int.le_refl _, fun y hy => absurd hy (List.not_mem_nil)⟩
 | y :: t, z, h0, h1, hb => by
   obtain ⟨b0, b1⟩ := hb y (List.mem_cons_self ..)
   rw [List.length_cons] at h1
   have hcast : ((t.length + 1 : Nat) : Int) = (t.length : Int) + 1 := by omega
   rw [hcast, Int.add_mul] at h1
   have hstep : tw (y :: t) x z = tw t x (if zBN y = x then IntKind.i64.wrap (z + y.2.2) else z) := rfl
   by_cases hk : zBN y = x
   ·rw [if_pos hk] at hstep
    have hw : IntKind.i64.wrap (z + y.2.2) = z + y.2.2 := w64 (by omega) (by omega)
    rw [hw] at hstep
    obtain ⟨i1, i2⟩ := zKT x t (z + y.2.2) (by omega) (by omega) (fun y hy => hb y (List.mem_cons_of_mem _ hy))
    rw [hstep]
    refine ⟨by omega, fun y' hy' hk' => ?_⟩
    rcases List.mem_cons.1 hy' with rfl | hy'
    ·omega
    ·exact i2 y' hy' hk'
   ·rw [if_neg hk] at hstep
    obtain ⟨i1, i2⟩ := zKT x t z h0 (by omega) (fun y hy => hb y (List.mem_cons_of_mem _ hy))
    rw [hstep]
    refine ⟨i1, fun y' hy' hk' => ?_⟩
    rcases List.mem_cons.1 hy' with rfl | hy'
    ·exact absurd hk' hk
    ·exact i2 y' hy' hk'
theorem zI6 {s : Sta} (h : zAp s = true) : s.orders.length ≤ 128 ∧ ∀ j, j < s.orders.length → ((zA1 (od_ s.orders j)).2 > 0 ∧ (zA1 (od_ s.orders j)).2 ≤ 1125899906842624) ∧ (0 ≤ (od_ s.orders j).acct ∧ (od_ s.orders j).acct ≤ 64) ∧ 0 ≤ (zA1 (od_ s.orders j)).1 ∧ (zA1 (od_ s.orders j)).1 ≤ 16 := by
 obtain ⟨h1, h2⟩ := zBK.1 (zBt.1 h).1
 refine ⟨h1, fun j hj => ?_⟩
 obtain ⟨hm, _⟩ := h2 j hj
 have hm' := hm
 obtain ⟨_, g1, g2, _, g4, g5⟩ := hm
 unfold zA1
 rw [if_pos ((zBJ _).2 hm')]
 split
 ·have a1 : 1 * 1 ≤ (od_ s.orders j).price * (od_ s.orders j).left := Int.mul_le_mul g4.1 g5.1 (by omega) (by omega)
  have a2 : (od_ s.orders j).price * (od_ s.orders j).left ≤ 1073741824 * 1048576 := Int.mul_le_mul g4.2 g5.2 (by omega) (by omega)
  refine ⟨⟨?_, ?_⟩, by omega, ?_, ?_⟩ <;> simp only <;> omega
 ·refine ⟨⟨?_, ?_⟩, by omega, ?_, ?_⟩ <;> simp only <;> omega
theorem zOz {x : Auc} (h : zBX x = true) : x.bids.length ≤ 16 ∧ (1 ≤ x.seller ∧ x.seller ≤ 64) ∧ (1 ≤ x.inst ∧ x.inst ≤ 16) ∧ (1 ≤ x.qty ∧ x.qty ≤ 1048576) ∧ ∀ j, j < x.bids.length → (1 ≤ (x.bids.getD j default).acct ∧ (x.bids.getD j default).acct ≤ 64) ∧ 1 ≤ (x.bids.getD j default).amount ∧ (x.bids.getD j default).amount ≤ 1125899906842624 := by
 obtain ⟨a1, a2, a3, a4, a5, a6, a7, a8⟩ := zCL h
 unfold zp at a1 a2 a3 a4
 simp only [Bool.and_eq_true, decide_eq_true_eq] at a1 a2 a3 a4
 refine ⟨?_, by omega, by omega, by omega, fun j hj => ?_⟩
 ·unfold zAn at a7
  split at a7
  ·unfold zEb at a7
   simp only [Bool.and_eq_true, decide_eq_true_eq] at a7
   omega
  ·unfold zDw at a7
   simp only [Bool.and_eq_true, decide_eq_true_eq] at a7
   omega
 ·unfold zCA at a8
  rcases z7 (zA6 x) x.bids.length with ⟨i, h1, h2, h3, h4⟩ | ⟨h1, h2⟩
  ·rw [h4] at a8; simp only [decide_eq_true_eq] at a8; omega
  ·have := h1 j hj
   unfold zA6 zp at this
   simp only [Bool.or_eq_false_iff, Bool.not_eq_false', Bool.and_eq_true, decide_eq_true_eq] at this
   omega
theorem zQw {l : List Auc} (h : zAf l = true) {k : Nat} (hk : k < l.length) : zBX (l.getD k default) = true := by
 unfold zAf at h
 simp only [Bool.and_eq_true, decide_eq_true_eq] at h
 rcases z7 (zA7 l) l.length with ⟨j, h1, h2, h3, h4⟩ | ⟨h1, h2⟩
 ·omega
 ·have := h1 k hk
  unfold zA7 at this
  simp only [Bool.or_eq_false_iff, Bool.not_eq_false'] at this
  exact this.2
theorem zFE {α : Type} (f : α → List P3) (n : Nat) : ∀ (l : List α), (∀ x, x ∈ l → (f x).length ≤ n) → (l.flatMap f).length ≤ l.length * n
 | [], _ => by simp
 | x :: t, h => by
   rw [List.flatMap_cons, List.length_append, List.length_cons, Nat.add_mul]
   have := zFE f n t (fun y hy => h y (List.mem_cons_of_mem _ hy))
   have := h x (List.mem_cons_self ..)
   omega
def PartOk (y : P3) : Prop := (0 < y.2.2 ∧ y.2.2 ≤ 1125899906842624) ∧ (0 ≤ y.1 ∧ y.1 ≤ 64) ∧ 0 ≤ y.2.1 ∧ y.2.1 ≤ 16
theorem zI7 {α : Type} {l : List α} {x : α} (d : α) (h : x ∈ l) : ∃ k, k < l.length ∧ l.getD k d = x := zE1 h
theorem zO0 {s : Sta} (h4 : zAp s = true) (h5 : zBi s = true) : (zm s).length ≤ 1024 ∧ ∀ y, y ∈ zm s → PartOk y := by
 obtain ⟨o1, o2⟩ := zI6 h4
 have hma := (zDK.1 h5).1
 obtain ⟨u1, u2⟩ := zMR hma
 have hao : ∀ x, x ∈ s.orders → (zAV x).length ≤ 1 := fun x _ => by unfold zAV; split <;> simp
 have hau : ∀ x, x ∈ s.aucs → (zAD x).length ≤ 17 := fun x hx => by
  obtain ⟨k, hk, rfl⟩ := zI7 default hx
  have := u2 k hk
  unfold zAD
  split
  ·rw [List.length_cons, List.length_map]; omega
  ·simp
 refine ⟨?_, fun y hy => ?_⟩
 ·unfold zm
  rw [List.length_append]
  have := zFE zAV 1 s.orders hao
  have := zFE zAD 17 s.aucs hau
  omega
 ·unfold zm at hy
  rcases List.mem_append.1 hy with hy | hy
  ·obtain ⟨x, hx, hy⟩ := List.mem_flatMap.1 hy
   obtain ⟨k, hk, rfl⟩ := zI7 default hx
   obtain ⟨⟨g1, g2⟩, g3, g4⟩ := o2 k hk
   have hd : s.orders.getD k default = od_ s.orders k := rfl
   rw [hd] at hy
   unfold zAV at hy
   rw [if_pos g1, List.mem_singleton] at hy
   subst hy
   exact ⟨⟨g1, g2⟩, g3, g4⟩
  ·obtain ⟨x, hx, hy⟩ := List.mem_flatMap.1 hy
   obtain ⟨k, hk, rfl⟩ := zI7 default hx
   have hm := zQw hma hk
   obtain ⟨_, b1, b2, b3, b4⟩ := zOz hm
   unfold zAD at hy
   rw [if_pos hm] at hy
   rcases List.mem_cons.1 hy with rfl | hy
   ·refine ⟨⟨?_, ?_⟩, ⟨?_, ?_⟩, ?_, ?_⟩ <;> simp only <;> omega
   ·obtain ⟨z, hz, rfl⟩ := List.mem_map.1 hy
    obtain ⟨j, hj, rfl⟩ := zI7 default hz
    obtain ⟨c1, c2⟩ := b4 j hj
    refine ⟨⟨?_, ?_⟩, ⟨?_, ?_⟩, ?_, ?_⟩ <;> simp only <;> omega
theorem zH4 {l : List Row4} (h : RowsP l l.length) : ∀ k, k < l.length → ∀ j, j < k → LtR (rw_ l j) (rw_ l k)
 | 0, _, j, hj => absurd hj (Nat.not_lt_zero j)
 | k + 1, hk, j, hj => by
   have h1 := (h (k + 1) hk).2
   rcases h1 with h1 | h1
   ·omega
   ·rw [Nat.add_sub_cancel] at h1
    by_cases hjk : j = k
    ·rw [hjk]; exact h1
    ·have h2 := zH4 h k (by omega) j (by omega)
     unfold LtR at *
     omega
theorem zH5 {l : List Row4} {k : Nat} {x : Int × Int} (hk : k ≤ l.length) : x ∈ zBr l k ↔ ∃ j, j < k ∧ zDr (rw_ l j) = x := by
 unfold zBr
 rw [List.mem_map]
 constructor
 ·rintro ⟨r, hr, rfl⟩
  obtain ⟨j, hj, rfl⟩ := zI7 default hr
  rw [List.length_take] at hj
  refine ⟨j, by omega, ?_⟩
  have : (l.take k).getD j default = rw_ l j := by
   unfold rw_
   rw [List.getD_eq_getElem?_getD, List.getElem?_take_of_lt (by omega), List.getD_eq_getElem?_getD, List.getElem?_eq_getElem (by omega)]
  rw [this]
 ·rintro ⟨j, hj, rfl⟩
  refine ⟨rw_ l j, ?_, rfl⟩
  rw [List.mem_take_iff_getElem]
  refine ⟨j, by omega, ?_⟩
  unfold rw_
  rw [List.getD_eq_getElem?_getD, List.getElem?_eq_getElem (by omega)]
  rfl
theorem zI8 {l : List Row4} (h : RowsP l l.length) {k : Nat} (hk : k < l.length) : zGX l (rw_ l k).acct (rw_ l k).asset = rw_ l k := by
 unfold zGX
 rw [zLa (p := fun r => r.acct == (rw_ l k).acct && r.asset == (rw_ l k).asset) hk (fun j hj => by
  have := zH4 h k hk j hj
  unfold LtR at this
  have hn : ¬ ((rw_ l j).acct = (rw_ l k).acct ∧ (rw_ l j).asset = (rw_ l k).asset) := by omega
  simpa using fun a b => hn ⟨a, b⟩) (by simp)]
 rfl
theorem zHO {l : List Row4} {a q : Int} (h : ¬ (a, q) ∈ zBr l l.length) : (zGX l a q).held = 0 := by
 unfold zGX
 rw [zHM (p := fun r => r.acct == a && r.asset == q) (fun j hj => by
  cases e : ((rw_ l j).acct == a && (rw_ l j).asset == q)
  ·rfl
  ·exfalso
   simp only [Bool.and_eq_true, beq_iff_eq] at e
   exact h ((zH5 (Nat.le_refl _)).2 ⟨j, hj, by unfold zDr; rw [e.1, e.2]⟩))]
 rfl
theorem zI9 {s : Sta} (h3 : zCE s = true) (h4 : zAp s = true) (h5 : zBi s = true) : zDX s = zFN s := by
 obtain ⟨pl, po⟩ := zO0 h4 h5
 have hR := (zBT.1 (zCU.1 h3).1).1
 have hH : ∀ a q, zFM s a q = zEz (zm s) (a, q) := fun a q => zOy s a q fun j hj => ((zI6 h4).2 j hj).1.1
 have hat : ∀ k, k < s.rows.length → (zCm s k = true ↔ zEz (zm s) (zDr (rw_ s.rows k)) = (rw_ s.rows k).held) := fun k hk => by
  unfold zCm
  rw [if_neg, beq_iff_eq]
  rw [zH5 (by omega)]
  rintro ⟨j, hj, he⟩
  have := zH4 hR k hk j hj
  unfold LtR at this
  unfold zDr at he
  have e1 := (Prod.mk.injEq _ _ _ _).mp he
  omega
 rw [Bool.eq_iff_iff, zFC]
 unfold zDX zHN
 simp only [Bool.and_eq_true, List.all_eq_true, List.mem_range, decide_eq_true_eq, beq_iff_eq]
 constructor
 ·rintro ⟨q1, q2⟩ a ha q hq
  rw [hH]
  by_cases hm : ((a : Int), (q : Int)) ∈ zBr s.rows s.rows.length
  ·obtain ⟨k, hk, he⟩ := (zH5 (Nat.le_refl _)).1 hm
   have h1 := (hat k hk).1 (q1 k hk)
   have h2 := zI8 hR hk
   rw [he] at h1
   unfold zDr at he
   have e1 := (Prod.mk.injEq _ _ _ _).mp he
   rw [e1.1, e1.2] at h2
   rw [h2, h1]
  ·rw [zHO hm]
   refine (zG4 ?_).symm
   unfold zGK
   rw [List.any_eq_false]
   intro y hy he
   exact hm (of_decide_eq_true he ▸ q2 y hy)
 ·intro hg
  refine ⟨fun k hk => (hat k hk).2 ?_, fun y hy => ?_⟩
  ·obtain ⟨⟨g1, g2, g3, g4⟩, _⟩ := (hR k hk).1
   have h1 := hg (rw_ s.rows k).acct.toNat (by omega) (rw_ s.rows k).asset.toNat (by omega)
   rw [Int.toNat_of_nonneg g1, Int.toNat_of_nonneg g3, zI8 hR hk, hH] at h1
   exact h1.symm
  ·obtain ⟨⟨y1, _⟩, ⟨y3, y4⟩, y5, y6⟩ := po y hy
   refine Classical.byContradiction fun hm => ?_
   have h1 := hg y.1.toNat (by omega) y.2.1.toNat (by omega)
   rw [Int.toNat_of_nonneg y3, Int.toNat_of_nonneg y5, hH] at h1
   have h2 : (zGX s.rows y.1 y.2.1).held = 0 := zHO (a := y.1) (q := y.2.1) hm
   have h3 := (zKT (y.1, y.2.1) (zm s) 0 (Int.le_refl _) (by omega) (fun z hz => ⟨by have := (po z hz).1; omega, by have := (po z hz).1; omega⟩)).2 y hy rfl
   have h4 : tw (zm s) (y.1, y.2.1) 0 = zEz (zm s) (y.1, y.2.1) := rfl
   omega
def rOk (s : Sta) (k : Nat) : Bool := if k = 6 then zFN s else zDa s k
theorem zO1 (s : Sta) : zBO (rOk s) = zBO (zDa s) := by
 have e : ∀ k, k < 6 → rOk s k = zDa s k := fun k hk => if_neg (by omega)
 rw [zFD, zFD, e 0 (by decide), e 1 (by decide), e 2 (by decide), e 3 (by decide), e 4 (by decide), e 5 (by decide)]
 by_cases h3 : zDa s 3 = true
 ·by_cases h4 : zDa s 4 = true
  ·by_cases h5 : zDa s 5 = true
   ·have : rOk s 6 = zDa s 6 := (zI9 h3 h4 h5).symm
    rw [this]
   ·simp [h5]
  ·simp [h4]
 ·simp [h3]
end Go.Proofs.YtggolnppckpdlaaGreat
set_option linter.unusedSimpArgs false
set_option linter.unusedVariables false
namespace Go.Proofs.YtggolnppckpdlaaGreat
open Go Go.Sk Go.RowKit
attribute [local irreducible] Go.Calls
theorem zO2 {F : zI} (s : Sta) (p : SPt) (hW : StaW s) (w0 : World) (hF : Mem w0 F) (hs : StaM F s p) :
  Calls Tryz.prog 64 [.agg (s.cells p).toArray].toArray w0 (Ret (.string (zBO (zDa s))) w0) := by
 rw [← zO1]
 exact zKS s p (rOk s) rfl (fun w hM => zIf s p w hM hs) (fun w hM => zGL s p w hM hs) (fun w hM => zPw s p hW.rw w hM hs) (fun w hM h => zMF s p h w hM hs) (fun w hM => zI2 s p w hM hs) (fun w hM => zQv s p w hM hs) w0 hF
end Go.Proofs.YtggolnppckpdlaaGreat
set_option linter.unusedSimpArgs false
set_option linter.unusedVariables false
namespace Go.Proofs.YtggolnppckpdlaaGreat
open Go Go.Sk Go.RowKit
attribute [local irreducible] Go.Calls
theorem zJA {B : List Nat} {x : Sta} {y : Vws} {p1 p2 : Rs} (h1 : Step B zIz ⟨0, 0, 0, false⟩ p1 x) (h2 : Step B zI0 p1 p2 y) {n : Nat} (hn : B.length = n) :
  (p2.liveB = false ∧ ∀ x' y', ¬ RdOk B x' y') ∨ (p2.liveB = true ∧ decide ((p2.pos : Int) < (n : Int)) = true ∧ ∀ x' y', ¬ RdOk B x' y') ∨
  (p2.liveB = true ∧ decide ((p2.pos : Int) < (n : Int)) = false ∧ (∃ l m, zIz x l ∧ zI0 y m ∧ B = l ++ m) ∧ ∀ x' y', RdOk B x' y' → x' = x ∧ y' = y) := by
 subst hn
 have hu : ∀ x' y', RdOk B x' y' → (p2.liveB = true ∧ B.length ≤ p2.pos) ∧ x' = x ∧ y' = y := by
  rintro x' y' ⟨⟨l, m, hl, hm, hB⟩, -⟩
  obtain ⟨c1, rfl, c3⟩ := h1.cpl ⟨rfl, rfl⟩ x' l m (staPR hl) (by simpa using hB)
  obtain ⟨d1, rfl, d3⟩ := h2.cpl c1 y' m [] (vwsPR hm) (by rw [c3, List.append_nil])
  refine ⟨⟨(zFA _).2 d1, ?_⟩, rfl, rfl⟩
  have := congrArg List.length d3
  rw [List.length_drop, List.length_nil] at this
  omega
 cases hl : p2.liveB with
 | false => exact .inl ⟨rfl, fun x' y' h => by have := (hu x' y' h).1.1; rw [hl] at this; cases this⟩
 | true =>
   by_cases hp : p2.pos < B.length
   ·exact .inr (.inl ⟨rfl, decide_eq_true (by omega), fun x' y' h => by have := (hu x' y' h).1.2; omega⟩)
   ·refine .inr (.inr ⟨rfl, decide_eq_false (by omega), ?_, fun x' y' h => (hu x' y' h).2⟩)
    obtain ⟨a1, m, a2, a3⟩ := h2.snd ((zFA _).1 hl)
    obtain ⟨b1, l, b2, b3⟩ := h1.snd a1
    refine ⟨l, m, b2, a2, ?_⟩
    rw [show B.drop p2.pos = [] from List.drop_of_length_le (by omega), List.append_nil] at a3
    rw [a3] at b3
    simpa using b3
def RdWR (B : List Nat) : Prop := ∀ x y l m, zIz x l → zI0 y m → B = l ++ m → StaW x
set_option maxHeartbeats 4000000 in
theorem zLb (s : ByteArray) (hs : s.size ≤ 140737488355328) (hW : RdWR (zN s)) (w0 : World) :
  Calls Tryz.prog 28 [.string s].toArray w0 (zf (zOL (zN s)) w0) := by
 have hlen := zP s
 by_cases hbig : s.size > 1048556
 ·have hd : decide ((s.size : Int) > 1048556) = true := decide_eq_true (by omega)
  refine enter [.cell 2 29, .cell 3 35, .tmp 4] Tryz.func28 rfl Tryz.ntmps28 rfl rfl ?_
  have H := zH w0
  repeat' (first | refine y1 sg ?_ | refine y3 ?_ | (refine y10 sg H ?_; intro b w H) | (refine y11 sg H ?_; intro w H) | (with_reducible first | apply zB | apply zD | apply zC | apply zF | apply zO) | refine zA ?_ | (refine y23 ?_ ?_; all_goals (intro h; try (exfalso; first | ((rw [hd] at h; cases h); done)))) | fail)
  refine zU (vs := [_, _, _]) ⟨zAF sg rfl H.mem (by repeat (first | exact List.Mem.head _ | exact List.mem_append_right _ (List.Mem.head _) | refine List.Mem.tail _ ?_)) rfl rfl, zAF sg rfl H.mem (by repeat (first | exact List.Mem.head _ | exact List.mem_append_right _ (List.Mem.head _) | refine List.Mem.tail _ ?_)) rfl rfl, zZ rfl, trivial⟩ H ⟨Sta.zero, SPt.zero, Vws.zero, VPt.zero, 40, rfl, StaM.zero, VwM.zero, .inr (.inr ⟨rfl, by omega, rfl, rfl⟩)⟩
 ·have hd : decide ((s.size : Int) > 1048556) = false := decide_eq_false (by omega)
  refine enter [.cell 2 29, .cell 3 35, .tmp 4] Tryz.func28 rfl Tryz.ntmps28 rfl rfl ?_
  have H := zH w0
  have hs' : s.size ≤ 16777216 := by omega
  repeat' (first | refine y1 sg ?_ | refine y3 ?_ | refine y5 sg ?_ | refine y7 sg H ?_ | (refine y9 H ?_; intro b w H) | (refine y10 sg H ?_; intro b w H) | (refine y11 sg H ?_; intro w H) | (refine' y33 ent77 ?_ ?_; rotate_left 2; exact zOw (p := ⟨0, 0, 0, false⟩) (Nat.zero_le _) hs' (H.perm (List.Perm.swap _ _ _)); rintro v N w ⟨x, pt, p1, M, rfl, rfl, hM, hS1⟩ H; replace H := H.perm (zOM M)) | (refine' y33 ent78 ?_ ?_; rotate_left 2; exact zOx (Nat.le_trans hS1.inv (Nat.le_of_eq hlen)) hs' (H.perm zDf); rintro v N w ⟨y, qt, p2, M2, rfl, rfl, hM2, hS2⟩ H; replace H := H.perm (zON M2 M); rcases zJA hS1 hS2 hlen with ⟨hlv, hno⟩|⟨hlv, hat, hno⟩|⟨hlv, hat, hrd, huq⟩; rotate_left 2; obtain ⟨c, hc⟩ : ∃ c, zBO (zDa x) = c := ⟨_, rfl⟩; have hcE : (c.toList == (ByteArray.mk #[]).toList) = zDb x := hc ▸ zEj (zDa x)) | (refine' y30 zBZ ?_ ?_; rotate_left; exact hlv ▸ zAb (p := p2) H.mem (by repeat (first | exact List.Mem.head _ | exact List.mem_append_right _ (List.Mem.head _) | refine List.Mem.tail _ ?_)) (by repeat (first | exact List.Mem.head _ | exact List.mem_append_right _ (List.Mem.head _) | refine List.Mem.tail _ ?_)); intro w hcl; replace H := H.ext hcl; clear hcl) | (refine' y30 ent64 ?_ ?_; rotate_left; exact hc ▸ zO2 x pt (by obtain ⟨l, m, h1, h2, h3⟩ := hrd; exact hW x y l m h1 h2 h3) _ H.mem (hM.mono (by intro p hp; simp [hp])); intro w hcl; replace H := H.ext hcl; clear hcl) | (refine' y30 ent65 ?_ ?_; rotate_left; exact zQu y qt _ H.mem (hM2.mono (by intro p hp; simp [hp])); intro w hcl; replace H := H.ext hcl; clear hcl) | (refine zw mixed 5 ?_ ?_; exact rfl; intro w hcl; replace H := H.ext hcl; clear hcl) | ((with_reducible apply zBD); decide +kernel) | (refine' z8 4 ?_ ?_; rotate_left; first | exact z9 sg) | refine z10 0 ?_ | refine z10 1 ?_ | refine z10 2 ?_ | refine z10 3 ?_ | refine z11 0 1 ?_ ?_ | refine z11 1 2 ?_ ?_ | refine y13 ?_ | refine y14 ?_ | (refine y17 ?_ ?_; all_goals (intro h; try (exfalso; first | ((rw [hd] at h; cases h); done) | ((rw [hlv] at h; cases h); done) | ((rw [hat] at h; cases h); done) | ((simp_all; done); done)))) | (with_reducible first | apply zB | apply zD | apply zC | apply zF | apply zG | apply zO) | refine zA ?_ | refine y21 ?_ | (refine y23 ?_ ?_; all_goals (intro h; try (exfalso; first | ((rw [hd] at h; cases h); done) | ((rw [hlv] at h; cases h); done) | ((rw [hat] at h; cases h); done) | ((simp_all; done); done)))) | fail)
  all_goals first
   | exact zU (vs := [_, _, _]) ⟨zAF sg rfl H.mem (by repeat (first | exact List.Mem.head _ | exact List.mem_append_right _ (List.Mem.head _) | refine List.Mem.tail _ ?_)) rfl rfl, zAF sg rfl H.mem (by repeat (first | exact List.Mem.head _ | exact List.mem_append_right _ (List.Mem.head _) | refine List.Mem.tail _ ?_)) rfl rfl, zZ rfl, trivial⟩ H ⟨Sta.zero, SPt.zero, Vws.zero, VPt.zero, 4, rfl, StaM.zero, VwM.zero, .inr (.inl ⟨rfl, by omega, rfl, rfl, hno⟩)⟩
   | exact zU (vs := [_, _, _]) ⟨zAF sg rfl H.mem (by repeat (first | exact List.Mem.head _ | exact List.mem_append_right _ (List.Mem.head _) | refine List.Mem.tail _ ?_)) rfl rfl, zAF sg rfl H.mem (by repeat (first | exact List.Mem.head _ | exact List.mem_append_right _ (List.Mem.head _) | refine List.Mem.tail _ ?_)) rfl rfl, zZ rfl, trivial⟩ H ⟨Sta.zero, SPt.zero, Vws.zero, VPt.zero, 4, rfl, StaM.zero, VwM.zero, .inr (.inl ⟨rfl, by omega, rfl, rfl, fun x' y' hr => by obtain ⟨rfl, rfl⟩ := huq x' y' hr; have h1 := hr.2.1; have h2 := hr.2.2; simp_all⟩)⟩
   | exact zU (vs := [_, _, _]) ⟨zAF sg rfl H.mem (by repeat (first | exact List.Mem.head _ | exact List.mem_append_right _ (List.Mem.head _) | refine List.Mem.tail _ ?_)) rfl rfl, zAF sg rfl H.mem (by repeat (first | exact List.Mem.head _ | exact List.mem_append_right _ (List.Mem.head _) | refine List.Mem.tail _ ?_)) rfl rfl, zZ rfl, trivial⟩ H ⟨x, pt, y, qt, 0, rfl, hM.mono (by intro p hp; simp [hp]), hM2.mono (by intro p hp; simp [hp]), .inl ⟨rfl, by omega, ref_rd hrd (by simp_all) (by simp_all)⟩⟩
   | trace_state
theorem staR_W {x : Sta} {l : List Nat} (h : zIz x l) (hl : l.length ≤ 10000) : StaW x := by
 obtain ⟨_, _, ⟨_, _, ⟨_, _, ⟨_, _, ⟨_, _, ⟨_, _, ⟨_, _, ⟨_, _, ⟨_, _, h0, h1, rfl⟩, h2, rfl⟩, h3, rfl⟩, h4, rfl⟩, h5, rfl⟩, h6, rfl⟩, h7, rfl⟩, h8, rfl⟩, h9, rfl⟩ := h
 have n5 := zA9 (fun x l => zLW) h5
 have n6 := zA9 (fun x l => zLX) h6
 simp only [zDc] at *
 simp only [List.length_append] at hl
 refine ⟨by omega, fun k hk => ?_, by omega, fun k hk => ?_, fun k hk => ?_⟩
 ·obtain ⟨m, hm⟩ := zBR h5 _ (zCG hk)
  obtain ⟨_, _, ⟨_, _, _, ht, _⟩, _, _⟩ := hm
  exact Nat.le_trans ht.1 (by decide)
 ·obtain ⟨m, hm⟩ := zBR h6 _ (zCG hk)
  obtain ⟨_, _, ⟨_, _, ⟨_, _, _, ht, _⟩, _, _⟩, _, _⟩ := hm
  exact Nat.le_trans ht.1 (by decide)
 ·obtain ⟨m, hm⟩ := zBR h7 _ (zCG hk)
  obtain ⟨⟨_, _, _, ⟨a, b, _⟩, _⟩, c, d⟩ := hm
  exact ⟨⟨Int.le_trans (by decide) c, Int.le_trans d (by decide)⟩, ⟨Int.le_trans (by decide) a, Int.le_trans b (by decide)⟩⟩
theorem RdWR.short {B : List Nat} (h : B.length ≤ 10000) : RdWR B := by
 intro x y l m h1 h2 h3
 rw [h3, List.length_append] at h
 exact staR_W h1 (by omega)
end Go.Proofs.YtggolnppckpdlaaGreat
set_option linter.unusedSimpArgs false
set_option linter.unusedVariables false
namespace Go.Proofs.YtggolnppckpdlaaGreat
open Go Go.Sk Go.RowKit
theorem zJB (a b : Nat) : (a ^^^ b) / 2 = (a / 2) ^^^ (b / 2) := by
 apply Nat.eq_of_testBit_eq
 intro i
 rw [Nat.testBit_xor, Nat.testBit_div_two, Nat.testBit_div_two, Nat.testBit_div_two, Nat.testBit_xor]
theorem zLc (a b : Nat) : ((a ^^^ b) % 2 = 1) ↔ ¬ (a % 2 = 1 ↔ b % 2 = 1) := by
 have h := Nat.testBit_xor a b 0
 simp only [Nat.testBit_zero] at h
 by_cases ha : a % 2 = 1 <;> by_cases hb : b % 2 = 1 <;> simp [ha, hb] at h ⊢ <;> omega
theorem zMW (a b : Nat) : zBa (a ^^^ b) = zBa a ^^^ zBa b := by
 unfold zBa
 rw [zJB]
 have h := zLc a b
 by_cases ha : a % 2 = 1 <;> by_cases hb : b % 2 = 1
 ·rw [if_neg (by rw [h]; simp [ha, hb]), if_pos ha, if_pos hb]
  rw [Nat.xor_assoc, Nat.xor_comm 3988292384, Nat.xor_assoc, Nat.xor_self, Nat.xor_zero]
 ·rw [if_pos (h.2 (by simp [ha, hb])), if_pos ha, if_neg hb]
  rw [Nat.xor_assoc, Nat.xor_assoc, Nat.xor_comm (b / 2)]
 ·rw [if_pos (h.2 (by simp [ha, hb])), if_neg ha, if_pos hb, Nat.xor_assoc]
 ·rw [if_neg (by rw [h]; simp [ha, hb]), if_neg ha, if_neg hb]
theorem zGZ : ∀ (k a b : Nat), zAE k (a ^^^ b) = zAE k a ^^^ zAE k b := by
 intro k
 induction k with
 | zero => intro a b; rfl
 | succ k ih => intro a b; simp only [zAE, zMW, ih]
theorem zGa (k : Nat) {c : Nat} (h : c < 4294967296) : zAE k c < 4294967296 := by
 induction k with
 | zero => exact h
 | succ k ih => exact zIp ih
theorem zKU (j k c : Nat) : zAE (j + k) c = zAE j (zAE k c) := by
 induction j with
 | zero => rw [Nat.zero_add]; rfl
 | succ j ih => rw [Nat.succ_add]; show zBa (zAE (j + k) c) = zBa (zAE j (zAE k c)); rw [ih]
theorem zFP : ∀ (k x : Nat), zAE k (2 ^ k * x) = x := by
 intro k
 induction k with
 | zero => intro x; simp [zAE]
 | succ k ih =>
   intro x
   rw [show k + 1 = 1 + k by omega, zKU]
   rw [show 2 ^ (1 + k) * x = 2 ^ k * (2 * x) by rw [Nat.pow_add, Nat.pow_one, Nat.mul_comm 2, Nat.mul_assoc], ih]
   show zBa (2 * x) = x
   unfold zBa
   rw [if_neg (by omega)]; omega
theorem zKV (c b : Nat) (hb : b < 256) : zFW ((c % 256) ^^^ b) ^^^ (c / 256) = zAE 8 (c ^^^ b) := by
 have h : c ^^^ b = ((c % 256) ^^^ b) ^^^ (2 ^ 8 * (c / 256)) := by
  have h1 : c = 2 ^ 8 * (c / 256) + c % 256 := by omega
  have h2 := Nat.two_pow_add_eq_or_of_lt (i := 8) (b := c % 256) (by omega) (c / 256)
  have h3 : 2 ^ 8 * (c / 256) + c % 256 = (2 ^ 8 * (c / 256)) ^^^ (c % 256) := by
   apply Nat.eq_of_testBit_eq
   intro i
   rw [h2, Nat.testBit_or, Nat.testBit_xor]
   by_cases hi : i < 8
   ·rw [Nat.testBit_two_pow_mul]; simp [show ¬ 8 ≤ i by omega]
   ·rw [show (c % 256).testBit i = false from Nat.testBit_lt_two_pow (Nat.lt_of_lt_of_le (show c % 256 < 2 ^ 8 by omega) (Nat.pow_le_pow_right (by decide) (by omega)))]
    simp
  rw [Nat.xor_comm, Nat.xor_comm (c % 256), Nat.xor_assoc, Nat.xor_comm (c % 256), ← h3, ← h1]
 rw [h, zGZ, zFP]; rfl
theorem zQx (l : List Nat) (hl : ∀ b ∈ l, b < 256) : ∀ c, zEG c l = l.foldl (fun c b => zAE 8 (c ^^^ b)) c := by
 unfold zEG
 induction l with
 | nil => intro c; rfl
 | cons x xs ih =>
   intro c
   rw [List.foldl_cons, List.foldl_cons, zKV c x (hl x (List.mem_cons_self)), ih fun b hb => hl b (List.mem_cons_of_mem _ hb)]
def zH6 (c : Nat) (l : List Nat) : Nat := l.foldl (fun c b => zAE 8 (c ^^^ b)) c
end Go.Proofs.YtggolnppckpdlaaGreat
set_option linter.unusedSimpArgs false
set_option linter.unusedVariables false
namespace Go.Proofs.YtggolnppckpdlaaGreat
open Go Go.Sk Go.RowKit
theorem zQy (l : List Nat) (hl : Byt l) : ∀ c, c < 4294967296 → zH6 c l < 4294967296 := by
 induction l with
 | nil => intro c h; exact h
 | cons a l ih =>
   intro c h
   exact ih (fun b hb => hl b (List.mem_cons_of_mem _ hb)) _ (zGa 8 (lt32 h (Nat.lt_trans (hl a (List.mem_cons_self)) (by decide))))
theorem zQz {l : List Nat} (hl : Byt l) : zDN l = 4294967295 - zH6 4294967295 l := by
 unfold zDN zJq
 rw [Nat.sub_zero, zQx l hl]; rfl
end Go.Proofs.YtggolnppckpdlaaGreat
set_option linter.unusedSimpArgs false
set_option linter.unusedVariables false
namespace Go.Proofs.YtggolnppckpdlaaGreat
open Go Go.Sk Go.RowKit
attribute [local irreducible] Go.Calls
theorem zMX (c b : Nat) (hb : b < 2) : (c ^^^ b) / 2 = c / 2 := by
 rw [zJB, show b / 2 = 0 by omega, Nat.xor_zero]
theorem zO3 (c b : Nat) (hb : b < 2) : (c ^^^ b) % 2 = 1 ↔ c % 2 ≠ b := by
 rw [zLc]
 omega
theorem zQ0 (c bt : Nat) (hc : c < 4294967296) (hb : bt < 2) (w : World) : Calls Tryz.prog 266 [.int .u32 (c : Int), .int .u32 (bt : Int)].toArray w (Ret (.int .u32 (zBa (c ^^^ bt) : Nat)) w) := by
 have ho := zO3 c bt hb
 have hh := zMX c bt hb
 refine enter [.tmp 4] Tryz.func266 rfl Tryz.ntmps266 rfl rfl ?_
 have H := zH w
 repeat' (first | refine y1 sg ?_ | (with_reducible first | apply zB | apply zD | apply zC | apply zF | apply zG | apply zO) | refine zA ?_ | (refine y23 ?_ ?_; all_goals intro h) | fail)
 all_goals rw [zOD c hc] at h
 ·have h1 : c % 2 ≠ bt := by
   intro e
   rw [e] at h
   simp at h
  refine zQ rfl H.cl (congrArg (Value.int .u32) ?_)
  rw [show min 1 IntKind.u32.bits = 1 from rfl, zFv c 1, show (3988292384 : Int) = ((3988292384 : Nat) : Int) from rfl, zOC _ _ (by omega) (by decide)]
  unfold zBa; rw [if_pos (ho.2 h1), hh]
 ·have h1 : ¬ c % 2 ≠ bt := by
   intro e
   simp at h
   omega
  refine zQ rfl H.cl (congrArg (Value.int .u32) ?_)
  rw [show min 1 IntKind.u32.bits = 1 from rfl, zFv c 1]
  unfold zBa; rw [if_neg (fun e => h1 (ho.1 e)), hh]
def zEp (c b i : Nat) : Nat := zAE i (c ^^^ (b % 2 ^ i))
theorem zKW (c b : Nat) : zEp c b 0 = c := by unfold zEp; simp [zAE, Nat.mod_one]
theorem zQ1 (b i : Nat) : b % 2 ^ (i + 1) = (b % 2 ^ i) ^^^ (2 ^ i * (b / 2 ^ i % 2)) := by
 apply Nat.eq_of_testBit_eq
 intro j
 rw [Nat.testBit_xor, Nat.testBit_mod_two_pow, Nat.testBit_mod_two_pow, Nat.testBit_two_pow_mul]
 by_cases h1 : j < i
 ·simp [h1, show j < i + 1 by omega, show ¬ i ≤ j by omega]
 ·by_cases h2 : j = i
  ·subst h2
   simp [Nat.testBit_zero, Nat.testBit_eq_decide_div_mod_eq]
  ·have h3 : ((b / 2 ^ i % 2).testBit (j - i)) = false := Nat.testBit_lt_two_pow (Nat.lt_of_lt_of_le (Nat.mod_lt _ (by decide)) (by
    have := Nat.pow_le_pow_right (n := 2) (by decide) (show 1 ≤ j - i by omega)
    omega))
   simp [h1, show ¬ j < i + 1 by omega, h3]
theorem zKX (c b i : Nat) : zEp c b (i + 1) = zBa (zEp c b i ^^^ (b / 2 ^ i % 2)) := by
 unfold zEp
 rw [zQ1, ← Nat.xor_assoc]
 show zBa (zAE i _) = _
 rw [zGZ i _ (2 ^ i * _), zFP]
theorem zO4 {c b : Nat} (hc : c < 4294967296) (hb : b < 256) (i : Nat) : zEp c b i < 4294967296 :=
 zGa i (lt32 hc (Nat.lt_of_le_of_lt (Nat.mod_le _ _) (Nat.lt_trans hb (by decide))))
theorem c_over (c bt : Nat) (hc : c < 4294967296) (hb : bt < 256) (w0 : World) : Calls Tryz.prog 230 [.int .u32 (c : Int), .int .u8 (bt : Int)].toArray w0 (Ret (.int .u32 (zAE 8 (c ^^^ bt) : Nat)) w0) := by
 have hw : IntKind.u32.wrap (bt : Int) = (bt : Int) := by rw [w32, Nat.mod_eq_of_lt (by omega)]
 refine enter [.tmp 4] Tryz.func230 rfl Tryz.ntmps230 rfl rfl ?_
 have H := zH w0
 repeat' (first | refine y1 sg ?_ | (with_reducible first | apply zB | apply zD | apply zC | apply zE) | refine zA ?_ | fail)
 refine zK [(0, 0), (5, 17)] (fun i : Nat => [(5, .int .i64 (i : Int)), (0, .int .u32 (zEp c bt i : Nat))]) (fun i w => St w0 [] w ∧ i ≤ 8) (fun i => 8 - i) 0 ⟨rfl, congrArg (fun n : Nat => Value.int .u32 (n : Int)) (zKW c bt).symm, trivial⟩ ⟨H, Nat.zero_le _⟩ ?_
 clear H
 rintro i gh w ⟨H, hi⟩
 by_cases hlt : i < 8
 ·have d1 : decide ((i : Int) < 8) = true := decide_eq_true (by omega)
  have hbit : IntKind.u32.wrap ((BitVec.ofInt IntKind.u32.bits (Int.fdiv (IntKind.u32.wrap (bt : Int)) (2 ^ min (i % (2 ^ IntKind.u64.bits : Int).natAbs) IntKind.u32.bits)) &&& BitVec.ofInt IntKind.u32.bits 1).toNat : Int) = ((bt / 2 ^ i % 2 : Nat) : Int) := by
   have e1 : (2 ^ IntKind.u64.bits : Int).natAbs = 18446744073709551616 := rfl
   have e2 : IntKind.u32.bits = 32 := rfl
   have e3 : min (i % 18446744073709551616) 32 = i := by omega
   rw [hw, e1, e2, e3, zFv]
   have h1 : bt / 2 ^ i < 4294967296 := Nat.lt_of_le_of_lt (Nat.div_le_self _ _) (by omega)
   have h2 := zOD _ h1
   rw [e2] at h2
   exact h2
  have hC := fun w => zQ0 (zEp c bt i) (bt / 2 ^ i % 2) (zO4 hc hb i) (Nat.mod_lt _ (by decide)) w
  rw [← zKX, ← hbit] at hC
  repeat' (first | refine y1 sg ?_ | refine y3 ?_ | (refine' y30 ent266 ?_ ?_; rotate_left; exact hC _; intro w hcl; replace H := H.ext hcl; clear hcl) | (with_reducible first | apply zB | apply zD | apply zC | apply zE | apply zG) | refine zA ?_ | (refine y23 ?_ ?_; all_goals (intro h; try (exfalso; first | ((rw [d1] at h; cases h); done)))) | fail)
  exact zJ (i + 1) rfl ⟨zT (by omega), rfl, trivial⟩ ⟨H, hlt⟩ (by omega)
 ·obtain rfl : i = 8 := by omega
  have d1 : decide (((8 : Nat) : Int) < 8) = false := rfl
  repeat' (first | refine y1 sg ?_ | (with_reducible first | apply zB | apply zD | apply zC | apply zF | apply zL | apply zS) | refine zA ?_ | refine y24 ?_ | refine y22 ?_ | fail)
  refine zQ rfl H.cl (congrArg (fun n : Nat => Value.int .u32 (n : Int)) ?_)
  unfold zEp
  rw [Nat.mod_eq_of_lt (by omega)]
theorem zMY (c : Nat) (l : List Nat) (b : Nat) : zH6 c (l ++ [b]) = zAE 8 (zH6 c l ^^^ b) := by simp [zH6]
theorem c_RAdd (c : Nat) (s : ByteArray) (hc : c < 4294967296) (hs : s.size ≤ 140737488355328) (w0 : World) : Calls Tryz.prog 204 [.int .u32 (c : Int), .string s].toArray w0 (Ret (.int .u32 (4294967295 - zH6 (4294967295 - c) (zN s) : Nat)) w0) := by
 have hsb : ∀ k, Byt ((zN s).take k) := fun k => (zAy s).take k
 have hlt := fun k => zQy _ (hsb k) (4294967295 - c) (by omega)
 refine enter [.tmp 4] Tryz.func204 rfl Tryz.ntmps204 rfl rfl ?_
 have H := zH w0
 repeat' (first | refine y1 sg ?_ | refine y3 ?_ | (refine zY rfl rfl (Yq.not32 hc rfl rfl) ?_) | (with_reducible first | apply zB | apply zD | apply zC | apply zE) | refine zA ?_ | fail)
 refine zK [(0, 0), (5, 5), (8, 18)] (fun k : Nat => [(5, .int .i64 (k : Int)), (0, .int .u32 (zH6 (4294967295 - c) ((zN s).take k) : Nat))]) (fun k w => St w0 [] w ∧ k ≤ s.size) (fun k => s.size - k) 0 ⟨rfl, rfl, trivial⟩ ⟨H, Nat.zero_le _⟩ ?_
 clear H
 rintro k gh w ⟨H, hk⟩
 by_cases hks : k < s.size
 ·have d1 : decide ((k : Int) < (s.size : Int)) = true := decide_eq_true (by omega)
  obtain ⟨d, hd⟩ : ∃ d, zH6 (4294967295 - c) ((zN s).take k) = d := ⟨_, rfl⟩
  have hdl : d < 4294967296 := hd ▸ hlt k
  have hC := fun w => c_over d (zAI s k) hdl (zBA s k) w
  have hn : zH6 (4294967295 - c) ((zN s).take (k + 1)) = zAE 8 (d ^^^ zAI s k) := by rw [zHA s hks, zMY, hd]
  rw [← hn] at hC
  rw [hd]
  repeat' (first | refine y1 sg ?_ | refine y3 ?_ | refine z13 (Yq.strIx sg rfl rfl rfl rfl rfl (Int.toNat_natCast _) (by omega) (by omega)) ?_ | (refine' y30 ent230 ?_ ?_; rotate_left; exact hC _; intro w hcl; replace H := H.ext hcl; clear hcl) | (with_reducible first | apply zB | apply zD | apply zC | apply zE | apply zG) | refine zA ?_ | (refine y23 ?_ ?_; all_goals (intro h; try (exfalso; first | ((rw [d1] at h; cases h); done)))) | fail)
  exact zJ (k + 1) rfl ⟨zT (by omega), rfl, trivial⟩ ⟨H, hks⟩ (by omega)
 ·obtain rfl : k = s.size := by omega
  have d1 : decide ((s.size : Int) < (s.size : Int)) = false := decide_eq_false (by omega)
  have hr := hlt s.size
  rw [List.take_of_length_le (by rw [zP]; exact Nat.le_refl _)] at hr ⊢
  repeat' (first | refine y1 sg ?_ | refine y3 ?_ | (refine zY rfl rfl (Yq.not32 hr rfl rfl) ?_) | (with_reducible first | apply zB | apply zD | apply zC | apply zF | apply zL | apply zS) | refine zA ?_ | refine y24 ?_ | (refine y23 ?_ ?_; all_goals (intro h; try (exfalso; first | ((rw [d1] at h; cases h); done)))) | fail)
  exact zQ rfl H.cl rfl
theorem c_ROf (s : ByteArray) (hs : s.size ≤ 140737488355328) (w0 : World) : Calls Tryz.prog 161 [.string s].toArray w0 (Ret (.int .u32 (zDN (zN s) : Nat)) w0) := by
 have hA := fun w => c_RAdd 0 s (by decide) hs w
 rw [Nat.sub_zero, ← zQz (zAy s)] at hA
 refine enter [.tmp 2] Tryz.func161 rfl Tryz.ntmps161 rfl rfl ?_
 have H := zH w0
 repeat' (first | refine y1 sg ?_ | refine y3 ?_ | (refine' y30 ent204 ?_ ?_; rotate_left; exact hA _; intro w hcl; replace H := H.ext hcl; clear hcl) | (with_reducible first | apply zB | apply zD | apply zC | apply zF) | refine zA ?_ | fail)
 exact zQ rfl H.cl rfl
end Go.Proofs.YtggolnppckpdlaaGreat
set_option linter.unusedSimpArgs false
set_option linter.unusedVariables false
namespace Go.Sk
open Go Go.RowKit
section
variable {P : Program} {n : Nw} {ops : Array Oper} {Q : zAX} {o : Oper} {rest : List Oper} {L : List (Nat × Value)} {b0 : Env} {w : World} (S : Sig P)
attribute [local semireducible] OX OW Yq
def u8L (l : List Nat) : List Value := l.map fun k : Nat => Value.int .u8 (k : Int)
theorem zH7 (l : List Nat) : (u8L l).length = l.length := by unfold u8L; exact List.length_map _
end
theorem sl_u8 {F : zI} {b z : Nat} {l : List Nat} {E : TypeId} {fr : Nat × Nat} (h : (b, Obj.cells (u8L l ++ List.replicate z (Value.int .u8 0)).toArray E fr) ∈ F) : SlB F 1 (some ⟨b, 0, none⟩) l.length b 0 (u8L l ++ List.replicate z (Value.int .u8 0)) E fr (u8c l) := by
 intro _
 refine ⟨rfl, h, fun j hj => ⟨by rw [List.length_append, zH7]; omega, ?_⟩⟩
 have hj' : j < (u8L l ++ List.replicate z (Value.int .u8 0)).length := by rw [List.length_append, zH7]; omega
 rw [Nat.zero_add, Nat.mul_one, ← List.getElem_cons_drop hj', List.take_succ_cons, List.take_zero, List.getElem_append_left (by rw [zH7]; exact hj)]
 simp [u8L, u8c, List.getD_eq_getElem?_getD, hj]
end Go.Sk
namespace Go.Proofs.YtggolnppckpdlaaGreat
open Go Go.Sk Go.RowKit
theorem OpenA.bad {X : List Nat} {n : Int} {x : Sta} {y : Vws} {e : Int} (h : OpenA X n x y e) (hno : ∀ q b, (zAe X).2 = 0 → HdOk (zAe X).1 q b → False) : e ≠ 0 ∧ n = 0 := by
 rcases h with ⟨_, _, q, b, _, h1, h2, _⟩ | ⟨hn, _, _, ⟨rfl, _⟩ | ⟨h1, _⟩ | ⟨rfl, _⟩⟩
 ·exact (hno q b h2 h1).elim
 ·exact ⟨by decide, hn⟩
 ·exact ⟨h1, hn⟩
 ·exact ⟨by decide, hn⟩
end Go.Proofs.YtggolnppckpdlaaGreat
set_option linter.unusedSimpArgs false
set_option linter.unusedVariables false
namespace Go.Proofs.YtggolnppckpdlaaGreat
open Go Go.Sk Go.RowKit
attribute [local irreducible] Go.Calls
theorem sl_u8n {F : zI} {b : Nat} {l : List Nat} {E : TypeId} {fr : Nat × Nat} (h : (b, Obj.cells (u8L l).toArray E fr) ∈ F) : SlB F 1 (some ⟨b, 0, none⟩) l.length b 0 (u8L l) E fr (u8c l) := by
 have := sl_u8 (F := F) (b := b) (z := 0) (l := l) (E := E) (fr := fr) (by simpa using h)
 simpa using this
theorem c_four (n : Nat) (w0 : World) : Calls Tryz.prog 160 [.int .u32 (n : Int)].toArray w0 (Ret (.string (bytesOf (le4 n))) w0) := by
 refine enter [.tmp 2] Tryz.func160 rfl Tryz.ntmps160 rfl rfl ?_
 have H := zH w0
 have e : [Value.int .u8 (IntKind.u8.wrap (n : Int)), Value.int .u8 (IntKind.u8.wrap ((n : Int).fdiv (2 ^ min 8 IntKind.u32.bits))), Value.int .u8 (IntKind.u8.wrap ((n : Int).fdiv (2 ^ min 16 IntKind.u32.bits))), Value.int .u8 (IntKind.u8.wrap ((n : Int).fdiv (2 ^ min 24 IntKind.u32.bits)))] = u8L (le4 n) := by
  rw [show min 8 IntKind.u32.bits = 8 from rfl, show min 16 IntKind.u32.bits = 16 from rfl, show min 24 IntKind.u32.bits = 24 from rfl, zIJ, zIJ, zIJ, w8]
  rfl
 repeat' (first | refine y1 sg ?_ | refine y3 ?_ | ((with_reducible apply OX.buildS sg H); exact rfl; exact rfl; exact rfl; exact rfl; exact rfl; exact rfl; exact rfl; exact rfl; exact rfl; exact rfl; intro b w H _; rw [e] at H) | refine z13 (zET sg (sl_u8n (F := [cb b (u8L (le4 n)) 5]) (List.Mem.head _)) rfl H.mem rfl rfl rfl rfl rfl rfl rfl rfl) ?_ | (with_reducible first | apply zB | apply zD | apply zC | apply zF) | refine zA ?_ | fail)
 exact zQ rfl H.cl rfl
end Go.Proofs.YtggolnppckpdlaaGreat
