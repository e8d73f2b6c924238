/- Texts of ours, joined: the steps of the proof, or the claim's theorem. -/
import Derived.Test.YtggolnppckpdlaaGreatR28
import Derived.Test.YtggolnppckpdlaaGreatR32
set_option linter.unusedSimpArgs false
set_option linter.unusedVariables false
namespace Go.Proofs.YtggolnppckpdlaaGreat
open Go Go.Sk Go.RowKit
theorem zCW {α : Type} [Inhabited α] {l : List α} {x : α} (h : x ∈ l) : ∃ k, k < l.length ∧ l.getD k default = x := by
 obtain ⟨k, hk, rfl⟩ := List.mem_iff_getElem.1 h
 exact ⟨k, hk, by simp [List.getD_eq_getElem?_getD, List.getElem?_eq_getElem hk]⟩
theorem zDe {most : Nat} (hm : most < 18446744073709551616) {x : Int} (h0 : 0 ≤ x) (h1 : x ≤ most) : ze most x (short (zAu x)) := ⟨h0, h1, rfl⟩
theorem zDJ {s : Sta} (h : zDb s = true) (k : Nat) (hk : k < 7) : zDa s k = true := by
 unfold zDb at h
 exact List.all_eq_true.1 h k (List.mem_range.2 hk)
theorem zLO {s : ByteArray} (h : z6 s = true) : s.size ≤ 24 := by
 unfold z6 at h
 simp only [Bool.and_eq_true, decide_eq_true_eq] at h
 exact h.1.2
theorem zQP {l : List Ac} (h : zCn l = true) : ∀ x ∈ l, zIT x (zF2 x) := by
 intro x hx
 obtain ⟨k, hk, rfl⟩ := zCW hx
 exact ⟨zLO ((zDD.1 h).2 k hk).1, rfl⟩
theorem zQQ {l : List Ins} (h : zBs l = true) : ∀ x ∈ l, zIU x (zFR x) := by
 intro x hx
 obtain ⟨k, hk, rfl⟩ := zCW hx
 obtain ⟨h1, ⟨h2, h3⟩, _⟩ := (zCT.1 h).2 k hk
 have h2 : 1 ≤ (l.getD k default).tick := h2
 have h3 : (l.getD k default).tick ≤ 1073741824 := h3
 exact ⟨zLO h1, ⟨by omega, by omega⟩, by simp [zFR, zr]⟩
theorem zQR {l : List Row4} (h : zBU l = true) : ∀ x ∈ l, zGg x (zEd x) := by
 intro x hx
 obtain ⟨k, hk, rfl⟩ := zCW hx
 obtain ⟨hg, _⟩ := (zBT.1 h).1 k hk
 have hz := zEy h hk
 obtain ⟨⟨g1, g2, g3, g4⟩, g5, g6, g7⟩ := hg
 change 0 ≤ (l.getD k default).acct at g1
 simp only [rw_] at *
 generalize l.getD k default = r at *
 refine ⟨⟨g1, g2⟩, ⟨g3, g4⟩, ?_, ?_, ?_, rfl⟩
 ·unfold zj
  by_cases h0 : r.acct = 0
  ·have := hz h0
   rw [if_pos h0]; simp only; rw [w64 (by omega) (by omega)]; omega
  ·have := g7 h0
   rw [if_neg h0]; omega
 ·by_cases h0 : r.acct = 0
  ·have := g6 h0; omega
  ·have := g7 h0; omega
 ·by_cases h0 : r.acct = 0
  ·have := hz h0; omega
  ·have := g7 h0; omega
theorem zHE {q : Int} (h : 0 ≤ q ∧ q < 256) : beK 1 q.toNat = [q.toNat] := by simp [beK, Nat.mod_eq_of_lt (show q.toNat < 256 by omega)]
theorem zQS {l : List Odr} (h : zAr l = true) : ∀ x ∈ l, zIV x (zFS x) := by
 intro x hx
 obtain ⟨k, hk, rfl⟩ := zCW hx
 unfold zAr at h
 simp only [Bool.and_eq_true, decide_eq_true_eq, List.all_eq_true, List.mem_range, Bool.not_eq_true'] at h
 obtain ⟨⟨a1, a2, a3, a4, a5, a6⟩, _⟩ := zGu.1 (h.2 k hk)
 simp only [od_] at *
 generalize l.getD k default = o at *
 have hs : 0 ≤ o.side ∧ o.side < 256 := by omega
 exact ⟨by omega, by omega, by omega, hs, by omega, by omega, by rw [zHE hs]; simp [zFS, zr]⟩
theorem zEJ {n m : Int} : zp n m = true ↔ 1 ≤ n ∧ n ≤ m := by simp [zp]
theorem zQT {l : List Auc} (h : zAf l = true) : ∀ x ∈ l, zGh x (zFV x) := by
 intro x hx
 obtain ⟨k, hk, rfl⟩ := zCW hx
 have hm : zBX (l.getD k default) = true := by
  unfold zAf at h
  simp only [Bool.and_eq_true, decide_eq_true_eq] at h
  rcases z7 (zA7 l) l.length with ⟨j, h1, h2, h3, h4⟩ | ⟨h1, h2⟩
  ·omega
  ·have := h1 k hk
   unfold zA7 at this
   simp only [Bool.or_eq_false_iff, Bool.not_eq_false'] at this
   exact this.2
 generalize l.getD k default = x at *
 obtain ⟨a1, a2, a3, a4, a5, a6, a7, a8⟩ := zCL hm
 rw [zEJ] at a1 a2 a3 a4 a5 a6
 have hst : 0 ≤ x.step ∧ x.step ≤ 1125899906842624 := by
  unfold zAn at a7
  split at a7
  ·unfold zEb at a7
   simp only [Bool.and_eq_true, beq_iff_eq] at a7
   omega
  ·unfold zDw at a7
   simp only [Bool.and_eq_true, zEJ] at a7
   omega
 have hb : ∀ b ∈ x.bids, zIW b (zF5 b) := by
  intro b hb
  obtain ⟨j, hj, rfl⟩ := zCW hb
  unfold zCA at a8
  rw [decide_eq_true_eq] at a8
  rcases z7 (zA6 x) x.bids.length with ⟨i, h1, h2, h3, h4⟩ | ⟨h1, h2⟩
  ·omega
  ·have := h1 j hj
   unfold zA6 at this
   simp only [Bool.or_eq_false_iff, Bool.not_eq_false', zEJ] at this
   obtain ⟨⟨⟨b1, _⟩, b2⟩, _⟩ := this
   exact ⟨by omega, by omega, by simp [zF5, zr]⟩
 have hl := zCp (P := zIW) (B := zF5) hb
 refine ⟨_, _, ⟨_, _, ⟨_, _, ⟨_, _, ⟨_, _, ⟨_, _, ⟨_, _, ⟨_, _, ⟨[], _, rfl, zDe (by decide) ?_ ?_, rfl⟩, zDe (by decide) ?_ ?_, rfl⟩, zDe (by decide) ?_ ?_, rfl⟩, rfl, rfl⟩, zDe (by decide) ?_ ?_, rfl⟩, zDe (by decide) ?_ ?_, rfl⟩, zDe (by decide) ?_ ?_, rfl⟩, zDe (by decide) ?_ ?_, rfl⟩, hl, ?_⟩
 ·simp only [zCZ]; omega
 ·simp only [zCZ]; omega
 ·simp only [zCZ]; omega
 ·simp only [zCZ]; omega
 ·simp only [zCZ]; omega
 ·simp only [zCZ]; omega
 ·simp only [zCZ]; omega
 ·simp only [zCZ]; omega
 ·simp only [zCZ]; omega
 ·simp only [zCZ]; omega
 ·simp only [zCZ]; omega
 ·simp only [zCZ]; omega
 ·simp only [zCZ]; omega
 ·simp only [zCZ]; omega
 ·simp [zFV, zr, zCZ, zG1]
theorem zOP {s : Sta} (h : zDb s = true) : zDd s (zBL s) := by
 have h0 : zDz s = true := zDJ h 0 (by decide)
 have h1 : zCn s.accts = true := zDJ h 1 (by decide)
 have h2 : zBs s.insts = true := zDJ h 2 (by decide)
 have h3 : zBU s.rows = true := (zCU.1 (zDJ h 3 (by decide))).1
 have h4 : zAr s.orders = true := (zBt.1 (zDJ h 4 (by decide))).1
 have h5 : zAf s.aucs = true := by
  have : zBi s = true := zDJ h 5 (by decide)
  unfold zBi at this
  rw [Bool.and_eq_true] at this
  exact this.1
 have e1 : zy zIT s.accts (zAT s.accts.length (fun k => zF2 (ac_ s.accts k))) := zCp (zQP h1)
 have e2 : zy zIU s.insts (zAT s.insts.length (fun k => zFR (in_ s.insts k))) := zCp (zQQ h2)
 have e3 : zy zGg s.rows (zAT s.rows.length (fun k => zEd (rw_ s.rows k))) := zCp (zQR h3)
 have e4 : zy zIV s.orders (zAT s.orders.length (fun k => zFS (od_ s.orders k))) := zCp (zQS h4)
 have e5 : zy zGh s.aucs (zAT s.aucs.length (fun k => zFV (s.aucs.getD k default))) := zCp (zQT h5)
 unfold zDz at h0
 simp only [Bool.and_eq_true, zAC] at h0
 refine ⟨_, _, ⟨_, _, ⟨_, _, ⟨_, _, ⟨_, _, ⟨_, _, ⟨_, _, ⟨_, _, ⟨[], _, rfl, zDe (by decide) ?_ ?_, rfl⟩, zDe (by decide) ?_ ?_, rfl⟩, zDe (by decide) ?_ ?_, rfl⟩, zDe (by decide) ?_ ?_, rfl⟩, e1, rfl⟩, e2, rfl⟩, e3, rfl⟩, e4, rfl⟩, e5, ?_⟩
 ·simp only [zDc]; omega
 ·simp only [zDc]; omega
 ·simp only [zDc]; omega
 ·simp only [zDc]; omega
 ·simp only [zDc]; omega
 ·simp only [zDc]; omega
 ·simp only [zDc]; omega
 ·simp only [zDc]; omega
 ·simp [zBL, zr, zDc]
theorem zQU {l : List Opn} {m : List Lt} (h : zD0 l m = true) : ∀ x ∈ l, zIX x (zFT x) := by
 intro x hx
 obtain ⟨k, hk, rfl⟩ := zCW hx
 have := (zB0.1 h).2.2.2.2.1 k hk
 simp only [op_] at this
 generalize l.getD k default = o at *
 unfold zBj at this
 simp only [Bool.and_eq_true, zAC, Bool.or_eq_true, beq_iff_eq] at this
 obtain ⟨a1, a2, a3, a4, a5, a6⟩ := this
 have hs : 0 ≤ o.side ∧ o.side < 256 := by omega
 exact ⟨by omega, by omega, by omega, hs, by omega, by omega, by rw [zHE hs]; simp [zFT, zr]⟩
theorem zQV {l : List Opn} {m : List Lt} (h : zD0 l m = true) : ∀ x ∈ m, zIY x (zF3 x) := by
 intro x hx
 obtain ⟨k, hk, rfl⟩ := zCW hx
 have := (zB0.1 h).2.2.2.2.2.2 k hk
 simp only [lt_] at this
 generalize m.getD k default = o at *
 unfold zCV at this
 simp only [Bool.and_eq_true, zAC] at this
 obtain ⟨a1, a2, a3, a4⟩ := this
 exact ⟨by omega, by omega, by omega, by omega, by simp [zF3, zr]⟩
theorem zQW {l : List Psn} (h : zFL l = true) : ∀ x ∈ l, zIZ x (zF4 x) := by
 intro x hx
 obtain ⟨k, hk, rfl⟩ := zCW hx
 have := (zDn.1 h k hk).1
 simp only [ps_] at this
 generalize l.getD k default = o at *
 obtain ⟨a1, a2, a3, a4, a5, a6, _⟩ := (zDG o).1 this
 unfold tot at a3 a4 a5 a6
 rw [zAC] at a3 a4 a5 a6
 exact ⟨by omega, by omega, by omega, by omega, by omega, by omega, by simp [zF4, zr]⟩
theorem zHF {l : List Ln} (h : zEl l = true) {k : Nat} (hk : k < l.length) : (ln_ l k).delta ≠ 0 ∧ -1125899906842624 ≤ (ln_ l k).delta ∧ (ln_ l k).delta ≤ 1125899906842624 ∧ (1 ≤ (ln_ l k).acct ∧ (ln_ l k).acct ≤ 64) ∧ (0 ≤ (ln_ l k).seq ∧ (ln_ l k).seq ≤ 1048575) ∧ (0 ≤ (ln_ l k).bal ∧ (ln_ l k).bal ≤ 1125899906842624) := by
 have hall : ∀ j, j < l.length → zHo l j = true := fun j hj => List.all_eq_true.1 h j (List.mem_range.2 hj)
 have hb : ∀ j, j < l.length → 0 ≤ (ln_ l j).bal ∧ (ln_ l j).bal ≤ 1125899906842624 := fun j hj => by
  have := hall j hj
  unfold zHo at this
  simp only [Bool.and_eq_true, zAC] at this
  exact this.2.2.2.2.2.1
 have hl : ∀ j, j ≤ l.length → ∀ a, 0 ≤ zAO l j a ∧ zAO l j a ≤ 1125899906842624 := by
  intro j
  induction j with
  | zero => intro _ a; unfold zAO; omega
  | succ j ih =>
    intro hj a
    unfold zAO
    split
    ·exact hb j (by omega)
    ·exact ih (by omega) a
 have := hall k hk
 unfold zHo at this
 simp only [Bool.and_eq_true, zAC, beq_iff_eq, Bool.not_eq_true', beq_eq_false_iff_ne] at this
 obtain ⟨a1, a2, _, _, a5, a6, a7, a8⟩ := this
 have hlk := hl k (by omega) (ln_ l k).acct
 unfold zGf zBo at a7 a8
 split at a7
 ·cases a7
 ·rename_i hne
  rw [if_neg hne] at a8
  exact ⟨a5, by omega, by omega, a1, a2, a6⟩
theorem zQX {l : List Ln} (h : zEl l = true) (hk : ∀ k, k < l.length → 0 ≤ (ln_ l k).kind ∧ (ln_ l k).kind < 256) : ∀ x ∈ l, zIa x (zFU x) := by
 intro x hx
 obtain ⟨k, hk1, rfl⟩ := zCW hx
 have hd := zHF h hk1
 have hq := hk k hk1
 simp only [ln_] at hd hq
 generalize l.getD k default = o at *
 obtain ⟨a0, a1, a2, a3, a4, a5⟩ := hd
 have hz : 0 ≤ zA3 o.delta ∧ zA3 o.delta ≤ 4611686018427387904 ∧ zAU (zA3 o.delta) = o.delta := by
  unfold zAU zA3
  by_cases h1 : o.delta > 0
  ·rw [if_pos h1]; split <;> omega
  ·rw [if_neg h1, if_neg a0]; split <;> omega
 exact ⟨by omega, by omega, hq, ⟨hz.1, hz.2.1⟩, by omega, hz.2.2, by rw [zHE hq, ← zLE a0 (by omega) (by omega)]; simp [zFU, zr]⟩
theorem zOQ {v : Vws} (h : zBP v = true) (hk : ∀ k, k < v.lins.length → 0 ≤ (ln_ v.lins k).kind ∧ (ln_ v.lins k).kind < 256) : zEI v (zBh v) := by
 unfold zBP at h
 simp only [Bool.and_eq_true] at h
 obtain ⟨h1, h2, h3⟩ := h
 have e1 : zy zIX v.opn (zAT v.opn.length (fun k => zFT (op_ v.opn k))) := zCp (zQU h1)
 have e2 : zy zIY v.lots (zAT v.lots.length (fun k => zF3 (lt_ v.lots k))) := zCp (zQV h1)
 have e3 : zy zIZ v.poss (zAT v.poss.length (fun k => zF4 (ps_ v.poss k))) := zCp (zQW h2)
 have e4 : zy zIa v.lins (zAT v.lins.length (fun k => zFU (ln_ v.lins k))) := zCp (zQX h3 hk)
 exact ⟨_, _, ⟨_, _, ⟨_, _, ⟨[], _, rfl, e1, rfl⟩, e2, rfl⟩, e3, rfl⟩, e4, by simp [zBh]⟩
end Go.Proofs.YtggolnppckpdlaaGreat
set_option linter.unusedSimpArgs false
set_option linter.unusedVariables false
namespace Go.Proofs.YtggolnppckpdlaaGreat
open Go Go.Sk Go.RowKit
theorem zOR : zCB zDd := by
 refine zCD (P := staS) zOI zDc ?_ (fun z l h => ⟨rfl, h⟩)
 exact za (za (za (za (za (za (za (za (za zCC (zq (by decide))) (zq (by decide))) (zq (by decide))) (zq (by decide))) (zB1 uq_acc)) (zB1 uq_ins)) (zB1 uq_row)) (zB1 uq_ord)) (zB1 uq_auc)
theorem uq_vws : zCB zEI := by
 refine zCD (P := vwsS) zOJ zJ0 ?_ (fun z l h => ⟨rfl, h⟩)
 exact za (za (za (za zCC (zB1 uq_opn)) (zB1 uq_lot)) (zB1 uq_pos)) (zB1 uq_lin)
theorem zLP {B : List Nat} {x x' : Sta} {y y' : Vws} {l m l' m' : List Nat} (h1 : zDd x l) (h2 : zEI y m) (h3 : B = l ++ m) (h1' : zDd x' l') (h2' : zEI y' m') (h3' : B = l' ++ m') : x = x' ∧ y = y' := by
 obtain ⟨e1, e2⟩ := zOR _ _ _ _ _ _ h1 h1' (h3.symm.trans h3')
 obtain ⟨e3, _⟩ := uq_vws _ _ _ _ [] [] h2 h2' (by rw [e2])
 exact ⟨e1, e3⟩
theorem RdOk.uniq {B : List Nat} {x x' : Sta} {y y' : Vws} (h : RdOk B x y) (h' : RdOk B x' y') : x = x' ∧ y = y' := by
 obtain ⟨⟨l, m, h1, h2, h3⟩, _⟩ := h
 obtain ⟨⟨l', m', h1', h2', h3'⟩, _⟩ := h'
 exact zLP h1 h2 h3 h1' h2' h3'
def zIs (v : Vws) : Prop := ∀ k, k < v.lins.length → 0 ≤ (ln_ v.lins k).kind ∧ (ln_ v.lins k).kind < 256
theorem RdOk.of {s : Sta} {v : Vws} (h1 : zDb s = true) (h2 : zBP v = true) (hk : zIs v) : RdOk (zCx s v) s v := ⟨⟨_, _, zOP h1, zOQ h2 hk, rfl⟩, h1, h2⟩
theorem zIt {α : Type} {P : α → List Nat → Prop} : ∀ {xs : List α} {l : List Nat}, zCH P xs l → ∀ x ∈ xs, ∃ m, P x m
 | [], _, _, x, hx => by cases hx
 | y :: ys, _, ⟨a, b, p, q, _⟩, x, hx => by
   rcases List.mem_cons.1 hx with rfl | hx
   ·exact ⟨a, p⟩
   ·exact zIt q x hx
theorem zBR {α : Type} {P : α → List Nat → Prop} {xs : List α} {l : List Nat} (h : zy P xs l) : ∀ x ∈ xs, ∃ m, P x m := by
 obtain ⟨l2, h2, _⟩ := h
 exact zIt h2
theorem zA9 {α : Type} {P : α → List Nat → Prop} (hP : ∀ x l, P x l → l ≠ []) {xs : List α} {l : List Nat} (h : zy P xs l) : xs.length ≤ l.length := by
 obtain ⟨l2, h2, rfl⟩ := h
 have := zCv hP h2
 rw [List.length_append]; omega
theorem zCG {α : Type} [Inhabited α] {l : List α} {k : Nat} (h : k < l.length) : l.getD k default ∈ l := by
 rw [List.getD_eq_getElem?_getD, List.getElem?_eq_getElem h]; exact List.getElem_mem h
theorem zQY {x : Sta} {l : List Nat} (h : zDd x l) : (∀ k, k < x.accts.length → (ac_ x.accts k).name.size ≤ 24) ∧ (∀ k, k < x.insts.length → (in_ x.insts k).name.size ≤ 24) ∧ (∀ j, j < x.rows.length → (rw_ x.rows j).wf) ∧ (∀ k, k < x.orders.length → 0 ≤ (od_ x.orders k).side ∧ (od_ x.orders k).side < 256) ∧ x.accts.length ≤ l.length ∧ x.insts.length ≤ l.length ∧ x.rows.length ≤ l.length ∧ x.orders.length ≤ l.length ∧ x.aucs.length ≤ l.length ∧ (∀ k, k < x.aucs.length → (x.aucs.getD k default).bids.length ≤ l.length) := by
 obtain ⟨_, _, ⟨_, _, ⟨_, _, ⟨_, _, ⟨_, _, ⟨_, _, ⟨_, _, ⟨_, _, ⟨_, _, h0, h1, rfl⟩, h2, rfl⟩, h3, rfl⟩, h4, rfl⟩, h5, rfl⟩, h6, rfl⟩, h7, rfl⟩, h8, rfl⟩, h9, rfl⟩ := h
 have n5 := zA9 (fun x l => zLG) h5
 have n6 := zA9 (fun x l => zLH) h6
 have n7 := zA9 (fun x l => zLI) h7
 have n8 := zA9 (fun x l => zLJ) h8
 have n9 := zA9 (fun x l => zHr) h9
 simp only [zDc] at *
 simp only [List.length_append]
 refine ⟨fun k hk => ?_, fun k hk => ?_, fun k hk => ?_, fun k hk => ?_, by omega, by omega, by omega, by omega, by omega, fun k hk => ?_⟩
 ·obtain ⟨m, hm⟩ := zBR h5 _ (zCG hk); exact hm.1
 ·obtain ⟨m, hm⟩ := zBR h6 _ (zCG hk); exact hm.1
 ·obtain ⟨m, hm⟩ := zBR h7 _ (zCG hk)
  obtain ⟨_, _, _, ⟨a, b⟩, ⟨c, d⟩, _⟩ := hm
  exact ⟨⟨Int.le_trans (by decide) c, Int.le_trans d (by decide)⟩, ⟨Int.le_trans (by decide) a, Int.le_trans b (by decide)⟩⟩
 ·obtain ⟨m, hm⟩ := zBR h8 _ (zCG hk); exact hm.2.2.2.1
 ·have : ∀ {xs : List Auc} {l : List Nat}, zCH zGh xs l → ∀ x ∈ xs, x.bids.length ≤ l.length := by
   intro xs
   induction xs with
   | nil => intro l _ x hx; cases hx
   | cons y ys ih =>
     rintro _ ⟨a, b, p, q, rfl⟩ x hx
     rw [List.length_append]
     rcases List.mem_cons.1 hx with rfl | hx
     ·obtain ⟨_, c, _, hc, rfl⟩ := p
      have := zA9 (fun x l => zK3) hc
      simp only [zCZ] at this
      rw [List.length_append]; omega
     ·have := ih q x hx; omega
  obtain ⟨l2, h2', rfl⟩ := h9
  have := this h2' _ (zCG hk)
  simp only [List.length_append]; omega
theorem zLQ {y : Vws} {l : List Nat} (h : zEI y l) : (∀ k, k < y.lins.length → (ln_ y.lins k).wf) ∧ zIs y ∧ (∀ k, k < y.opn.length → 0 ≤ (op_ y.opn k).side ∧ (op_ y.opn k).side < 256) ∧ y.opn.length ≤ l.length ∧ y.lots.length ≤ l.length ∧ y.poss.length ≤ l.length ∧ y.lins.length ≤ l.length := by
 obtain ⟨_, _, ⟨_, _, ⟨_, _, ⟨_, _, h0, h1, rfl⟩, h2, rfl⟩, h3, rfl⟩, h4, rfl⟩ := h
 have n1 := zA9 (fun x l => zLK) h1
 have n2 := zA9 (fun x l => zLL) h2
 have n3 := zA9 (fun x l => zLM) h3
 have n4 := zA9 (fun x l => zLN) h4
 simp only [zJ0] at *
 simp only [List.length_append]
 refine ⟨fun k hk => ?_, fun k hk => ?_, fun k hk => ?_, by omega, by omega, by omega, by omega⟩
 ·obtain ⟨m, hm⟩ := zBR h4 _ (zCG hk)
  obtain ⟨_, _, _, ⟨a, b⟩, ⟨c, d⟩, _⟩ := hm
  refine ⟨?_, ⟨Int.le_trans (by decide) c, Int.le_trans d (by decide)⟩⟩
  simp only [ln_]
  generalize (y.lins.getD k default).delta = z at *
  unfold zA3 at a b
  by_cases h : z > 0
  ·rw [if_pos h] at b; omega
  ·by_cases h' : z = 0
   ·omega
   ·rw [if_neg h, if_neg h'] at b; omega
 ·obtain ⟨m, hm⟩ := zBR h4 _ (zCG hk); exact hm.2.2.1
 ·obtain ⟨m, hm⟩ := zBR h1 _ (zCG hk); exact hm.2.2.2.1
theorem staP_W {x : Sta} {l : List Nat} (h : zDd x l) (hl : l.length ≤ 10000) : StaW x := by
 obtain ⟨a1, a2, a3, a4, a5, a6, a7, a8, a9, a10⟩ := zQY h
 exact ⟨by omega, fun k hk => Nat.le_trans (a1 k hk) (by decide), by omega, fun k hk => Nat.le_trans (a2 k hk) (by decide), a3⟩
theorem RdW.short {B : List Nat} (h : B.length ≤ 10000) : RdW B := by
 intro x y l m h1 h2 h3
 rw [h3, List.length_append] at h
 exact ⟨staP_W h1 (by omega), (zLQ h2).1⟩
theorem RdW.of {s : Sta} {v : Vws} (hs : zDd s (zBL s)) (hv : zEI v (zBh v)) (hW : StaW s) : RdW (zCx s v) := by
 intro x y l m h1 h2 h3
 obtain ⟨rfl, rfl⟩ := zLP h1 h2 h3 hs hv rfl
 exact ⟨hW, (zLQ hv).1⟩
end Go.Proofs.YtggolnppckpdlaaGreat
