/- Texts of ours, joined: the steps of the proof, or the claim's theorem. -/
import Derived.Test.YtggolnppckpdlaaGreatT29
import Derived.Test.YtggolnppckpdlaaGreatT33
set_option linter.unusedSimpArgs false
set_option linter.unusedVariables false
namespace Go.Proofs.YtggolnppckpdlaaGreat
open Go Go.Sk Go.RowKit
theorem zC2 {α : Type} [Inhabited α] {l : List α} {x : α} (h : x ∈ l) : ∃ k, k < l.length ∧ l.getD k default = x := by
 obtain ⟨k, hk, rfl⟩ := List.mem_iff_getElem.1 h
 exact ⟨k, hk, by simp [List.getD_eq_getElem?_getD, List.getElem?_eq_getElem hk]⟩
theorem zDt {most : Nat} (hm : most < 18446744073709551616) {x : Int} (h0 : 0 ≤ x) (h1 : x ≤ most) : zAn most x (short (zAX x)) := ⟨h0, h1, rfl⟩
theorem zCS {s : Sta} (h : zC8 s = true) (k : Nat) (hk : k < 7) : zDf s k = true := by
 unfold zC8 at h
 exact List.all_eq_true.1 h k (List.mem_range.2 hk)
theorem zFw {s : ByteArray} (h : zAB s = true) : s.size ≤ 24 := by
 unfold zAB at h
 simp only [Bool.and_eq_true, decide_eq_true_eq] at h
 exact h.1.2
theorem zQB {l : List Ac} (h : zCd l = true) : ∀ x ∈ l, zJg x (zDm x) := by
 intro x hx
 obtain ⟨k, hk, rfl⟩ := zC2 hx
 exact ⟨zFw ((zCe.1 h).2 k hk).1, rfl⟩
theorem zQC {l : List Ins} (h : zBp l = true) : ∀ x ∈ l, zJh x (zDZ x) := by
 intro x hx
 obtain ⟨k, hk, rfl⟩ := zC2 hx
 obtain ⟨h1, ⟨h2, h3⟩, _⟩ := (zB7.1 h).2 k hk
 have h2 : 1 ≤ (l.getD k default).tick := h2
 have h3 : (l.getD k default).tick ≤ 1073741824 := h3
 exact ⟨zFw h1, ⟨by omega, by omega⟩, by simp [zDZ, zX]⟩
theorem zQD {l : List Row4} (h : zBa l = true) : ∀ x ∈ l, zHs x (zCa x) := by
 intro x hx
 obtain ⟨k, hk, rfl⟩ := zC2 hx
 obtain ⟨hg, _⟩ := (zBZ.1 h).1 k hk
 have hz := zFK h hk
 obtain ⟨⟨g1, g2, g3, g4⟩, g5, g6, g7⟩ := hg
 change 0 ≤ (l.getD k default).acct at g1
 simp only [rw_] at *
 generalize l.getD k default = r at *
 refine ⟨⟨g1, g2⟩, ⟨g3, g4⟩, ?_, ?_, ?_, rfl⟩
 ·unfold zx
  by_cases h0 : r.acct = 0
  ·have := hz h0
   rw [if_pos h0]; simp only; rw [w64 (by omega) (by omega)]; omega
  ·have := g7 h0
   rw [if_neg h0]; omega
 ·by_cases h0 : r.acct = 0
  ·have := g6 h0; omega
  ·have := g7 h0; omega
 ·by_cases h0 : r.acct = 0
  ·have := hz h0; omega
  ·have := g7 h0; omega
theorem zOD {q : Int} (h : 0 ≤ q ∧ q < 256) : beK 1 q.toNat = [q.toNat] := by simp [beK, Nat.mod_eq_of_lt (show q.toNat < 256 by omega)]
theorem zQE {l : List Odr} (h : zAu l = true) : ∀ x ∈ l, zJi x (zDa x) := by
 intro x hx
 obtain ⟨k, hk, rfl⟩ := zC2 hx
 unfold zAu at h
 simp only [Bool.and_eq_true, decide_eq_true_eq, List.all_eq_true, List.mem_range, Bool.not_eq_true'] at h
 obtain ⟨⟨a1, a2, a3, a4, a5, a6⟩, _⟩ := zHA.1 (h.2 k hk)
 simp only [od_] at *
 generalize l.getD k default = o at *
 have hs : 0 ≤ o.side ∧ o.side < 256 := by omega
 exact ⟨by omega, by omega, by omega, hs, by omega, by omega, by rw [zOD hs]; simp [zDa, zX]⟩
theorem zEZ {n m : Int} : zr n m = true ↔ 1 ≤ n ∧ n ≤ m := by simp [zr]
theorem zQF {l : List Auc} (h : zAi l = true) : ∀ x ∈ l, zHu x (zCy x) := by
 intro x hx
 obtain ⟨k, hk, rfl⟩ := zC2 hx
 have hm : zBg (l.getD k default) = true := by
  unfold zAi at h
  simp only [Bool.and_eq_true, decide_eq_true_eq] at h
  rcases zAC (zA9 l) l.length with ⟨j, h1, h2, h3, h4⟩ | ⟨h1, h2⟩
  ·omega
  ·have := h1 k hk
   unfold zA9 at this
   simp only [Bool.or_eq_false_iff, Bool.not_eq_false'] at this
   exact this.2
 generalize l.getD k default = x at *
 obtain ⟨a1, a2, a3, a4, a5, a6, a7, a8⟩ := zCU hm
 rw [zEZ] at a1 a2 a3 a4 a5 a6
 have hst : 0 ≤ x.step ∧ x.step ≤ 1125899906842624 := by
  unfold zAr at a7
  split at a7
  ·unfold zEq at a7
   simp only [Bool.and_eq_true, beq_iff_eq] at a7
   omega
  ·unfold zEE at a7
   simp only [Bool.and_eq_true, zEZ] at a7
   omega
 have hb : ∀ b ∈ x.bids, zJj b (zDd b) := by
  intro b hb
  obtain ⟨j, hj, rfl⟩ := zC2 hb
  unfold zCJ at a8
  rw [decide_eq_true_eq] at a8
  rcases zAC (zA8 x) x.bids.length with ⟨i, h1, h2, h3, h4⟩ | ⟨h1, h2⟩
  ·omega
  ·have := h1 j hj
   unfold zA8 at this
   simp only [Bool.or_eq_false_iff, Bool.not_eq_false', zEZ] at this
   obtain ⟨⟨⟨b1, _⟩, b2⟩, _⟩ := this
   exact ⟨by omega, by omega, by simp [zDd, zX]⟩
 have hl := zC0 (P := zJj) (B := zDd) hb
 refine ⟨_, _, ⟨_, _, ⟨_, _, ⟨_, _, ⟨_, _, ⟨_, _, ⟨_, _, ⟨_, _, ⟨[], _, rfl, zDt (by decide) ?_ ?_, rfl⟩, zDt (by decide) ?_ ?_, rfl⟩, zDt (by decide) ?_ ?_, rfl⟩, rfl, rfl⟩, zDt (by decide) ?_ ?_, rfl⟩, zDt (by decide) ?_ ?_, rfl⟩, zDt (by decide) ?_ ?_, rfl⟩, zDt (by decide) ?_ ?_, rfl⟩, hl, ?_⟩
 ·simp only [zDN]; omega
 ·simp only [zDN]; omega
 ·simp only [zDN]; omega
 ·simp only [zDN]; omega
 ·simp only [zDN]; omega
 ·simp only [zDN]; omega
 ·simp only [zDN]; omega
 ·simp only [zDN]; omega
 ·simp only [zDN]; omega
 ·simp only [zDN]; omega
 ·simp only [zDN]; omega
 ·simp only [zDN]; omega
 ·simp only [zDN]; omega
 ·simp only [zDN]; omega
 ·simp [zCy, zX, zDN, zHI]
theorem zOE {s : Sta} (h : zC8 s = true) : zD9 s (zAz s) := by
 have h0 : zEH s = true := zCS h 0 (by decide)
 have h1 : zCd s.accts = true := zCS h 1 (by decide)
 have h2 : zBp s.insts = true := zCS h 2 (by decide)
 have h3 : zBa s.rows = true := (zCf.1 (zCS h 3 (by decide))).1
 have h4 : zAu s.orders = true := (zB2.1 (zCS h 4 (by decide))).1
 have h5 : zAi s.aucs = true := by
  have : zBq s = true := zCS h 5 (by decide)
  unfold zBq at this
  rw [Bool.and_eq_true] at this
  exact this.1
 have e1 : zA0 zJg s.accts (zAV s.accts.length (fun k => zDm (ac_ s.accts k))) := zC0 (zQB h1)
 have e2 : zA0 zJh s.insts (zAV s.insts.length (fun k => zDZ (in_ s.insts k))) := zC0 (zQC h2)
 have e3 : zA0 zHs s.rows (zAV s.rows.length (fun k => zCa (rw_ s.rows k))) := zC0 (zQD h3)
 have e4 : zA0 zJi s.orders (zAV s.orders.length (fun k => zDa (od_ s.orders k))) := zC0 (zQE h4)
 have e5 : zA0 zHu s.aucs (zAV s.aucs.length (fun k => zCy (s.aucs.getD k default))) := zC0 (zQF h5)
 unfold zEH at h0
 simp only [Bool.and_eq_true, zAF] at h0
 refine ⟨_, _, ⟨_, _, ⟨_, _, ⟨_, _, ⟨_, _, ⟨_, _, ⟨_, _, ⟨_, _, ⟨[], _, rfl, zDt (by decide) ?_ ?_, rfl⟩, zDt (by decide) ?_ ?_, rfl⟩, zDt (by decide) ?_ ?_, rfl⟩, zDt (by decide) ?_ ?_, rfl⟩, e1, rfl⟩, e2, rfl⟩, e3, rfl⟩, e4, rfl⟩, e5, ?_⟩
 ·simp only [zFV]; omega
 ·simp only [zFV]; omega
 ·simp only [zFV]; omega
 ·simp only [zFV]; omega
 ·simp only [zFV]; omega
 ·simp only [zFV]; omega
 ·simp only [zFV]; omega
 ·simp only [zFV]; omega
 ·simp [zAz, zX, zFV]
theorem zQG {l : List Opn} {m : List Lt} (h : zEI l m = true) : ∀ x ∈ l, zJk x (zDb x) := by
 intro x hx
 obtain ⟨k, hk, rfl⟩ := zC2 hx
 have := (zB9.1 h).2.2.2.2.1 k hk
 simp only [op_] at this
 generalize l.getD k default = o at *
 unfold zBr at this
 simp only [Bool.and_eq_true, zAF, Bool.or_eq_true, beq_iff_eq] at this
 obtain ⟨a1, a2, a3, a4, a5, a6⟩ := this
 have hs : 0 ≤ o.side ∧ o.side < 256 := by omega
 exact ⟨by omega, by omega, by omega, hs, by omega, by omega, by rw [zOD hs]; simp [zDb, zX]⟩
theorem zQH {l : List Opn} {m : List Lt} (h : zEI l m = true) : ∀ x ∈ m, zJl x (zDn x) := by
 intro x hx
 obtain ⟨k, hk, rfl⟩ := zC2 hx
 have := (zB9.1 h).2.2.2.2.2.2 k hk
 simp only [lt_] at this
 generalize m.getD k default = o at *
 unfold zCg at this
 simp only [Bool.and_eq_true, zAF] at this
 obtain ⟨a1, a2, a3, a4⟩ := this
 exact ⟨by omega, by omega, by omega, by omega, by simp [zDn, zX]⟩
theorem zQI {l : List Psn} (h : zFg l = true) : ∀ x ∈ l, zJm x (zDo x) := by
 intro x hx
 obtain ⟨k, hk, rfl⟩ := zC2 hx
 have := (zD4.1 h k hk).1
 simp only [ps_] at this
 generalize l.getD k default = o at *
 obtain ⟨a1, a2, a3, a4, a5, a6, _⟩ := (zDS o).1 this
 unfold tot at a3 a4 a5 a6
 rw [zAF] at a3 a4 a5 a6
 exact ⟨by omega, by omega, by omega, by omega, by omega, by omega, by simp [zDo, zX]⟩
theorem zMH {l : List Ln} (h : zE6 l = true) {k : Nat} (hk : k < l.length) : (ln_ l k).delta ≠ 0 ∧ -1125899906842624 ≤ (ln_ l k).delta ∧ (ln_ l k).delta ≤ 1125899906842624 ∧ (1 ≤ (ln_ l k).acct ∧ (ln_ l k).acct ≤ 64) ∧ (0 ≤ (ln_ l k).seq ∧ (ln_ l k).seq ≤ 1048575) ∧ (0 ≤ (ln_ l k).bal ∧ (ln_ l k).bal ≤ 1125899906842624) := by
 have hall : ∀ j, j < l.length → zH5 l j = true := fun j hj => List.all_eq_true.1 h j (List.mem_range.2 hj)
 have hb : ∀ j, j < l.length → 0 ≤ (ln_ l j).bal ∧ (ln_ l j).bal ≤ 1125899906842624 := fun j hj => by
  have := hall j hj
  unfold zH5 at this
  simp only [Bool.and_eq_true, zAF] at this
  exact this.2.2.2.2.2.1
 have hl : ∀ j, j ≤ l.length → ∀ a, 0 ≤ zAR l j a ∧ zAR l j a ≤ 1125899906842624 := by
  intro j
  induction j with
  | zero => intro _ a; unfold zAR; omega
  | succ j ih =>
    intro hj a
    unfold zAR
    split
    ·exact hb j (by omega)
    ·exact ih (by omega) a
 have := hall k hk
 unfold zH5 at this
 simp only [Bool.and_eq_true, zAF, beq_iff_eq, Bool.not_eq_true', beq_eq_false_iff_ne] at this
 obtain ⟨a1, a2, _, _, a5, a6, a7, a8⟩ := this
 have hlk := hl k (by omega) (ln_ l k).acct
 unfold zG0 zBy at a7 a8
 split at a7
 ·cases a7
 ·rename_i hne
  rw [if_neg hne] at a8
  exact ⟨a5, by omega, by omega, a1, a2, a6⟩
theorem zQJ {l : List Ln} (h : zE6 l = true) (hk : ∀ k, k < l.length → 0 ≤ (ln_ l k).kind ∧ (ln_ l k).kind < 256) : ∀ x ∈ l, zJn x (zDc x) := by
 intro x hx
 obtain ⟨k, hk1, rfl⟩ := zC2 hx
 have hd := zMH h hk1
 have hq := hk k hk1
 simp only [ln_] at hd hq
 generalize l.getD k default = o at *
 obtain ⟨a0, a1, a2, a3, a4, a5⟩ := hd
 have hz : 0 ≤ zB3 o.delta ∧ zB3 o.delta ≤ 4611686018427387904 ∧ zBC (zB3 o.delta) = o.delta := by
  unfold zBC zB3
  by_cases h1 : o.delta > 0
  ·rw [if_pos h1]; split <;> omega
  ·rw [if_neg h1, if_neg a0]; split <;> omega
 exact ⟨by omega, by omega, hq, ⟨hz.1, hz.2.1⟩, by omega, hz.2.2, by rw [zOD hq, ← zP6 a0 (by omega) (by omega)]; simp [zDc, zX]⟩
theorem zOF {v : Vws} (h : zBU v = true) (hk : ∀ k, k < v.lins.length → 0 ≤ (ln_ v.lins k).kind ∧ (ln_ v.lins k).kind < 256) : zE9 v (zBA v) := by
 unfold zBU at h
 simp only [Bool.and_eq_true] at h
 obtain ⟨h1, h2, h3⟩ := h
 have e1 : zA0 zJk v.opn (zAV v.opn.length (fun k => zDb (op_ v.opn k))) := zC0 (zQG h1)
 have e2 : zA0 zJl v.lots (zAV v.lots.length (fun k => zDn (lt_ v.lots k))) := zC0 (zQH h1)
 have e3 : zA0 zJm v.poss (zAV v.poss.length (fun k => zDo (ps_ v.poss k))) := zC0 (zQI h2)
 have e4 : zA0 zJn v.lins (zAV v.lins.length (fun k => zDc (ln_ v.lins k))) := zC0 (zQJ h3 hk)
 exact ⟨_, _, ⟨_, _, ⟨_, _, ⟨[], _, rfl, e1, rfl⟩, e2, rfl⟩, e3, rfl⟩, e4, by simp [zBA]⟩
end Go.Proofs.YtggolnppckpdlaaGreat
set_option linter.unusedSimpArgs false
set_option linter.unusedVariables false
namespace Go.Proofs.YtggolnppckpdlaaGreat
open Go Go.Sk Go.RowKit
theorem zOG : zCK zD9 := by
 refine zCM (P := staS) staOf zFV ?_ (fun z l h => ⟨rfl, h⟩)
 exact zg (zg (zg (zg (zg (zg (zg (zg (zg zCL (zt (by decide))) (zt (by decide))) (zt (by decide))) (zt (by decide))) (zCA uq_acc)) (zCA uq_ins)) (zCA uq_row)) (zCA uq_ord)) (zCA uq_auc)
theorem uq_vws : zCK zE9 := by
 refine zCM (P := vwsS) vwsOf vwsT ?_ (fun z l h => ⟨rfl, h⟩)
 exact zg (zg (zg (zg zCL (zCA uq_opn)) (zCA uq_lot)) (zCA uq_pos)) (zCA uq_lin)
theorem zLJ {B : List Nat} {x x' : Sta} {y y' : Vws} {l m l' m' : List Nat} (h1 : zD9 x l) (h2 : zE9 y m) (h3 : B = l ++ m) (h1' : zD9 x' l') (h2' : zE9 y' m') (h3' : B = l' ++ m') : x = x' ∧ y = y' := by
 obtain ⟨e1, e2⟩ := zOG _ _ _ _ _ _ h1 h1' (h3.symm.trans h3')
 obtain ⟨e3, _⟩ := uq_vws _ _ _ _ [] [] h2 h2' (by rw [e2])
 exact ⟨e1, e3⟩
theorem RdOk.uniq {B : List Nat} {x x' : Sta} {y y' : Vws} (h : RdOk B x y) (h' : RdOk B x' y') : x = x' ∧ y = y' := by
 obtain ⟨⟨l, m, h1, h2, h3⟩, _⟩ := h
 obtain ⟨⟨l', m', h1', h2', h3'⟩, _⟩ := h'
 exact zLJ h1 h2 h3 h1' h2' h3'
def zLK (v : Vws) : Prop := ∀ k, k < v.lins.length → 0 ≤ (ln_ v.lins k).kind ∧ (ln_ v.lins k).kind < 256
theorem RdOk.of {s : Sta} {v : Vws} (h1 : zC8 s = true) (h2 : zBU v = true) (hk : zLK v) : RdOk (zBs s v) s v := ⟨⟨_, _, zOE h1, zOF h2 hk, rfl⟩, h1, h2⟩
theorem zIv {α : Type} {P : α → List Nat → Prop} : ∀ {xs : List α} {l : List Nat}, zC7 P xs l → ∀ x ∈ xs, ∃ m, P x m
 | [], _, _, x, hx => by cases hx
 | y :: ys, _, ⟨a, b, p, q, _⟩, x, hx => by
   rcases List.mem_cons.1 hx with rfl | hx
   ·exact ⟨a, p⟩
   ·exact zIv q x hx
theorem zCi {α : Type} {P : α → List Nat → Prop} {xs : List α} {l : List Nat} (h : zA0 P xs l) : ∀ x ∈ xs, ∃ m, P x m := by
 obtain ⟨l2, h2, _⟩ := h
 exact zIv h2
theorem zBl {α : Type} {P : α → List Nat → Prop} (hP : ∀ x l, P x l → l ≠ []) {xs : List α} {l : List Nat} (h : zA0 P xs l) : xs.length ≤ l.length := by
 obtain ⟨l2, h2, rfl⟩ := h
 have := zD0 hP h2
 rw [List.length_append]; omega
theorem zDu {α : Type} [Inhabited α] {l : List α} {k : Nat} (h : k < l.length) : l.getD k default ∈ l := by
 rw [List.getD_eq_getElem?_getD, List.getElem?_eq_getElem h]; exact List.getElem_mem h
theorem zQK {x : Sta} {l : List Nat} (h : zD9 x l) : (∀ k, k < x.accts.length → (ac_ x.accts k).name.size ≤ 24) ∧ (∀ k, k < x.insts.length → (in_ x.insts k).name.size ≤ 24) ∧ (∀ j, j < x.rows.length → (rw_ x.rows j).wf) ∧ (∀ k, k < x.orders.length → 0 ≤ (od_ x.orders k).side ∧ (od_ x.orders k).side < 256) ∧ x.accts.length ≤ l.length ∧ x.insts.length ≤ l.length ∧ x.rows.length ≤ l.length ∧ x.orders.length ≤ l.length ∧ x.aucs.length ≤ l.length ∧ (∀ k, k < x.aucs.length → (x.aucs.getD k default).bids.length ≤ l.length) := by
 obtain ⟨_, _, ⟨_, _, ⟨_, _, ⟨_, _, ⟨_, _, ⟨_, _, ⟨_, _, ⟨_, _, ⟨_, _, h0, h1, rfl⟩, h2, rfl⟩, h3, rfl⟩, h4, rfl⟩, h5, rfl⟩, h6, rfl⟩, h7, rfl⟩, h8, rfl⟩, h9, rfl⟩ := h
 have n5 := zBl (fun x l => zLB) h5
 have n6 := zBl (fun x l => zLC) h6
 have n7 := zBl (fun x l => zLD) h7
 have n8 := zBl (fun x l => zLE) h8
 have n9 := zBl (fun x l => zH9) h9
 simp only [zFV] at *
 simp only [List.length_append]
 refine ⟨fun k hk => ?_, fun k hk => ?_, fun k hk => ?_, fun k hk => ?_, by omega, by omega, by omega, by omega, by omega, fun k hk => ?_⟩
 ·obtain ⟨m, hm⟩ := zCi h5 _ (zDu hk); exact hm.1
 ·obtain ⟨m, hm⟩ := zCi h6 _ (zDu hk); exact hm.1
 ·obtain ⟨m, hm⟩ := zCi h7 _ (zDu hk)
  obtain ⟨_, _, _, ⟨a, b⟩, ⟨c, d⟩, _⟩ := hm
  exact ⟨⟨Int.le_trans (by decide) c, Int.le_trans d (by decide)⟩, ⟨Int.le_trans (by decide) a, Int.le_trans b (by decide)⟩⟩
 ·obtain ⟨m, hm⟩ := zCi h8 _ (zDu hk); exact hm.2.2.2.1
 ·have : ∀ {xs : List Auc} {l : List Nat}, zC7 zHu xs l → ∀ x ∈ xs, x.bids.length ≤ l.length := by
   intro xs
   induction xs with
   | nil => intro l _ x hx; cases hx
   | cons y ys ih =>
     rintro _ ⟨a, b, p, q, rfl⟩ x hx
     rw [List.length_append]
     rcases List.mem_cons.1 hx with rfl | hx
     ·obtain ⟨_, c, _, hc, rfl⟩ := p
      have := zBl (fun x l => zK0) hc
      simp only [zDN] at this
      rw [List.length_append]; omega
     ·have := ih q x hx; omega
  obtain ⟨l2, h2', rfl⟩ := h9
  have := this h2' _ (zDu hk)
  simp only [List.length_append]; omega
theorem zLL {y : Vws} {l : List Nat} (h : zE9 y l) : (∀ k, k < y.lins.length → (ln_ y.lins k).wf) ∧ zLK y ∧ (∀ k, k < y.opn.length → 0 ≤ (op_ y.opn k).side ∧ (op_ y.opn k).side < 256) ∧ y.opn.length ≤ l.length ∧ y.lots.length ≤ l.length ∧ y.poss.length ≤ l.length ∧ y.lins.length ≤ l.length := by
 obtain ⟨_, _, ⟨_, _, ⟨_, _, ⟨_, _, h0, h1, rfl⟩, h2, rfl⟩, h3, rfl⟩, h4, rfl⟩ := h
 have n1 := zBl (fun x l => zLF) h1
 have n2 := zBl (fun x l => zLG) h2
 have n3 := zBl (fun x l => zLH) h3
 have n4 := zBl (fun x l => zLI) h4
 simp only [vwsT] at *
 simp only [List.length_append]
 refine ⟨fun k hk => ?_, fun k hk => ?_, fun k hk => ?_, by omega, by omega, by omega, by omega⟩
 ·obtain ⟨m, hm⟩ := zCi h4 _ (zDu hk)
  obtain ⟨_, _, _, ⟨a, b⟩, ⟨c, d⟩, _⟩ := hm
  refine ⟨?_, ⟨Int.le_trans (by decide) c, Int.le_trans d (by decide)⟩⟩
  simp only [ln_]
  generalize (y.lins.getD k default).delta = z at *
  unfold zB3 at a b
  by_cases h : z > 0
  ·rw [if_pos h] at b; omega
  ·by_cases h' : z = 0
   ·omega
   ·rw [if_neg h, if_neg h'] at b; omega
 ·obtain ⟨m, hm⟩ := zCi h4 _ (zDu hk); exact hm.2.2.1
 ·obtain ⟨m, hm⟩ := zCi h1 _ (zDu hk); exact hm.2.2.2.1
theorem staP_W {x : Sta} {l : List Nat} (h : zD9 x l) (hl : l.length ≤ 10000) : StaW x := by
 obtain ⟨a1, a2, a3, a4, a5, a6, a7, a8, a9, a10⟩ := zQK h
 exact ⟨by omega, fun k hk => Nat.le_trans (a1 k hk) (by decide), by omega, fun k hk => Nat.le_trans (a2 k hk) (by decide), a3⟩
theorem RdW.short {B : List Nat} (h : B.length ≤ 10000) : RdW B := by
 intro x y l m h1 h2 h3
 rw [h3, List.length_append] at h
 exact ⟨staP_W h1 (by omega), (zLL h2).1⟩
theorem RdW.of {s : Sta} {v : Vws} (hs : zD9 s (zAz s)) (hv : zE9 v (zBA v)) (hW : StaW s) : RdW (zBs s v) := by
 intro x y l m h1 h2 h3
 obtain ⟨rfl, rfl⟩ := zLJ h1 h2 h3 hs hv rfl
 exact ⟨hW, (zLL hv).1⟩
end Go.Proofs.YtggolnppckpdlaaGreat
