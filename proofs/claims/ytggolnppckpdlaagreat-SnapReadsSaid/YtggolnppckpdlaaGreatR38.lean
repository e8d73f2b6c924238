/- Texts of ours, joined: the steps of the proof, or the claim's theorem. -/
import Derived.Test.YtggolnppckpdlaaGreatR13
set_option linter.unusedSimpArgs false
set_option linter.unusedVariables false
namespace Go.Proofs.YtggolnppckpdlaaGreat
open Go Go.Sk Go.RowKit
attribute [local irreducible] Go.Calls
abbrev rdR (pr : Nat) (s : ByteArray) (p : Rs) : Nat × Obj := cb pr [.string s, .int .i64 (p.pos : Int), .int .i64 p.e, .int .i64 (p.to : Int)] 130
def RdFR (pr : Nat) (s : ByteArray) (G : zI) (p : Rs) (v0 : Value) : zI → Value → Prop := fun N v => v = v0 ∧ N = rdR pr s p :: G
theorem zB7 {w0 w : World} {G : zI} {pr : Nat} {s : ByteArray} {p : Rs} {e : Int} {q : Int} (n : Nat) (hq : q = (n : Int)) (H : St w0 (rdR pr s p :: G) w) : Calls Tryz.prog 167 [ptr pr, .int .i64 e, .int .i64 q].toArray w (zf (RdFR pr s G ⟨p.pos, e, n, p.bad⟩ (.tuple #[])) w0) := by
 subst hq
 refine enter [] Tryz.func167 rfl Tryz.ntmps167 rfl rfl ?_
 repeat' (first | refine y1 sg ?_ | refine y3 ?_ | (refine y11 sg H ?_; intro w H) | (with_reducible first | apply zB | apply zD | apply zC) | refine zA ?_ | fail)
 exact zu (vs := []) trivial H ⟨rfl, rfl⟩
def zQe (pr : Nat) (s : ByteArray) (G : zI) (p : Rs) (most : Nat) : zI → Value → Prop := fun N v => ∃ (x : Nat) (p' : Rs), v = .int .u64 (x : Int) ∧ N = rdR pr s p' :: G ∧ x ≤ most ∧ p'.bad = p.bad ∧ Step (zN s) (zJX most) p p' x
set_option maxRecDepth 20000 in
set_option maxHeartbeats 4000000 in
theorem zHK {w0 w : World} {G : zI} {pr : Nat} {s : ByteArray} {p : Rs} {q : Int} (most : Nat) (hq : q = (most : Int)) (hm : most < 18446744073709551616) (hp : p.pos ≤ s.size) (hs : s.size ≤ 1073741824) (H : St w0 (rdR pr s p :: G) w) :
  Calls Tryz.prog 205 [ptr pr, .int .u64 q].toArray w (zf (zQe pr s G p most) w0) := by
 subst hq
 have hlen := zP s
 by_cases he : p.e = 0
 ·obtain ⟨a, e, to_, bad⟩ := p
  simp only at he hp
  subst he
  have hd0 : ((0 : Int) != 0) = false := by decide
  refine enter [.tmp 4] Tryz.func205 rfl Tryz.ntmps205 rfl rfl ?_
  repeat' (first | refine y1 sg ?_ | refine y3 ?_ | refine y7 sg H ?_ | (with_reducible first | apply zB | apply zD | apply zC | apply zE | apply zG) | refine zA ?_ | refine y22 ?_ | fail)
  refine zK [(4, 8), (14, 95)] (fun x : Nat × Nat => [(5, .int .u64 (x.2 : Int)), (6, .int .u64 ((128 ^ x.1 : Nat) : Int)), (7, .int .i64 (x.1 : Int))]) (fun x w => St w0 (rdR pr s ⟨a, 0, to_, bad⟩ :: G) w ∧ a + x.1 ≤ s.size ∧ x.1 ≤ 9 ∧ x.2 < 128 ^ x.1 ∧ ShS (zN s) a x.1 x.2 (a + x.1) ∧ ShC (zN s) a x.1 x.2 (a + x.1)) (fun x => 10 - x.1) (0, 0) ⟨rfl, rfl, rfl, trivial⟩ ⟨H, hp, by decide, by decide, ShS.first _ _, ShC.first _ _⟩ ?_
  clear H
  rintro ⟨k, n⟩ gh w ⟨H, ha, hk, hn, hS, hC⟩
  simp only at H ha hk hn hS hC ⊢
  have hak : IntKind.i64.wrap ((a : Int) + (k : Int)) = ((a + k : Nat) : Int) := by rw [w64 (by omega) (by omega)]; omega
  by_cases hlt : a + k < s.size
  ·have hb8 := zBA s (a + k)
   have hdr := zEt (B := zN s) (i := a + k) (by omega)
   rw [zB6 s hlt] at hdr
   obtain ⟨b, hb⟩ : ∃ b, zAI s (a + k) = b := ⟨_, rfl⟩
   rw [hb] at hdr hb8
   have hv : IntKind.u64.wrap (b : Int) = (b : Int) := zBI (by omega)
   have hd1 : decide (IntKind.i64.wrap ((a : Int) + (k : Int)) ≥ (s.size : Int)) = false := decide_eq_false (by rw [hak]; omega)
   have hq : ∀ _ : k = 9 → b ≤ 1, _ := fun h9 => zKt hn hk (show b % 128 < 128 by omega) (fun h => by have := h9 h; omega)
   by_cases hbad : (k = 9 ∧ 1 < b) ∨ (0 < k ∧ b = 0)
   ·repeat' (first | refine y1 sg ?_ | refine y2 sg ?_ | refine y3 ?_ | refine y4 ?_ | refine y5 sg ?_ | refine y7 sg H ?_ | refine y8 sg H ?_ | (refine zo rfl rfl (Yq.strIxB sg hb rfl rfl rfl rfl rfl ((congrArg Int.toNat hak).trans (Int.toNat_natCast _)) (by rw [hak]; omega) (by rw [hak]; omega)) ?_) | (refine' y33 zDQ ?_ ?_; rotate_left 2; exact zB7 a rfl H; rintro v N w ⟨rfl, rfl⟩ H) | refine y13 ?_ | refine y14 ?_ | (refine y17 ?_ ?_; all_goals (intro h; try (exfalso; first | ((rw [hd1] at h; cases h); done) | ((simp only [hv, beq_iff_eq, decide_eq_true_eq, decide_eq_false_iff_not, beq_eq_false_iff_ne, gt_iff_lt] at *; omega); done)))) | (with_reducible first | apply zB | apply zD | apply zC | apply zE | apply zF | apply zG | apply zO | apply zW) | (with_reducible apply zV; intro w hcl; replace H := H.ext hcl; clear hcl) | refine zA ?_ | refine y20 mixed ?_ | refine y21 ?_ | (refine y23 ?_ ?_; all_goals (intro h; try (exfalso; first | ((rw [hd1] at h; cases h); done) | ((simp only [hv, beq_iff_eq, decide_eq_true_eq, decide_eq_false_iff_not, beq_eq_false_iff_ne, gt_iff_lt] at *; omega); done)))) | fail)
    all_goals first
     | exact zU (vs := [_]) ⟨zZ rfl, trivial⟩ H ⟨0, _, rfl, rfl, by omega, rfl, by simp only; omega, fun h => absurd h.1 (by simp), fun _ y l r hy hr => (hC.bad hb8 hdr hbad (hy.2 ▸ hr) (by have := hy.1; omega)).elim⟩
     | trace_state
   ·have h9 : k = 9 → b ≤ 1 := fun h => by omega
    have h0 : 0 < k → b ≠ 0 := fun h => by omega
    have hq2 := (hq h9).2
    have hP : 128 ^ k ≤ 9223372036854775808 := by
     have := Nat.pow_le_pow_right (n := 128) (by decide) hk
     simpa using this
    have hrem : (IntKind.u64.wrap (b : Int)).tmod (Int.ofNat (127 + 1)) = ((b % 128 : Nat) : Int) := by rw [hv]; rfl
    have hmul : IntKind.u64.wrap (((128 ^ k : Nat) : Int) * (IntKind.u64.wrap (b : Int)).tmod (Int.ofNat (127 + 1))) = ((b % 128 * 128 ^ k : Nat) : Int) := by
     rw [hrem, ← Int.natCast_mul, Nat.mul_comm, zBI (by omega)]
    have hsum : IntKind.u64.wrap ((n : Int) + IntKind.u64.wrap (((128 ^ k : Nat) : Int) * (IntKind.u64.wrap (b : Int)).tmod (Int.ofNat (127 + 1)))) = ((n + b % 128 * 128 ^ k : Nat) : Int) := by
     rw [hmul, ← Int.natCast_add, zBI (by omega)]
    have hat : IntKind.i64.wrap (IntKind.i64.wrap ((a : Int) + (k : Int)) + 1) = ((a + k + 1 : Nat) : Int) := by rw [hak, w64 (by omega) (by omega)]; omega
    by_cases hb7 : b < 128
    ·have hd2 : decide (IntKind.u64.wrap (b : Int) < 128) = true := decide_eq_true (by rw [hv]; omega)
     by_cases hmx : n + b % 128 * 128 ^ k ≤ most
     ·have hd3 : decide (IntKind.u64.wrap ((n : Int) + IntKind.u64.wrap (((128 ^ k : Nat) : Int) * (IntKind.u64.wrap (b : Int)).tmod (Int.ofNat (127 + 1)))) > (most : Int)) = false := decide_eq_false (by rw [hsum]; omega)
      repeat' (first | refine y1 sg ?_ | refine y2 sg ?_ | refine y3 ?_ | refine y4 ?_ | refine y5 sg ?_ | refine y7 sg H ?_ | refine y8 sg H ?_ | (refine y11 sg H ?_; intro w H) | (refine zo rfl rfl (Yq.strIxB sg hb rfl rfl rfl rfl rfl ((congrArg Int.toNat hak).trans (Int.toNat_natCast _)) (by rw [hak]; omega) (by rw [hak]; omega)) ?_) | refine y13 ?_ | refine y14 ?_ | (refine y17 ?_ ?_; all_goals (intro h; try (exfalso; first | ((rw [hd1] at h; cases h); done) | ((rw [hd2] at h; cases h); done) | ((rw [hd3] at h; cases h); done) | ((simp only [hv, beq_iff_eq, decide_eq_true_eq, decide_eq_false_iff_not, beq_eq_false_iff_ne, gt_iff_lt] at *; omega); done)))) | (with_reducible first | apply zB | apply zD | apply zC | apply zE | apply zF | apply zG | apply zO | apply zW) | (with_reducible apply zV; intro w hcl; replace H := H.ext hcl; clear hcl) | refine zA ?_ | refine y20 mixed ?_ | refine y22 ?_ | (refine y23 ?_ ?_; all_goals (intro h; try (exfalso; first | ((rw [hd1] at h; cases h); done) | ((rw [hd2] at h; cases h); done) | ((rw [hd3] at h; cases h); done) | ((simp only [hv, beq_iff_eq, decide_eq_true_eq, decide_eq_false_iff_not, beq_eq_false_iff_ne, gt_iff_lt] at *; omega); done)))) | fail)
      all_goals first
       | (rw [hat] at H
          refine zU (vs := [_]) ⟨zZ rfl, trivial⟩ H ⟨_, ⟨a + k + 1, 0, to_, bad⟩, congrArg (Value.int .u64) hsum, rfl, hmx, rfl, by simp only; omega, fun hl => ⟨hl, _, ⟨hmx, rfl⟩, hS.last hb7 h0 hdr⟩, fun hl y l r hy hr => ?_⟩
          obtain ⟨e1, e2, _⟩ := hC.last hb7 hdr (hy.2 ▸ hr)
          exact ⟨hl, e1.symm, e2⟩)
       | trace_state
     ·have hd3 : decide (IntKind.u64.wrap ((n : Int) + IntKind.u64.wrap (((128 ^ k : Nat) : Int) * (IntKind.u64.wrap (b : Int)).tmod (Int.ofNat (127 + 1)))) > (most : Int)) = true := decide_eq_true (by rw [hsum]; omega)
      repeat' (first | refine y1 sg ?_ | refine y2 sg ?_ | refine y3 ?_ | refine y4 ?_ | refine y5 sg ?_ | refine y7 sg H ?_ | refine y8 sg H ?_ | (refine zo rfl rfl (Yq.strIxB sg hb rfl rfl rfl rfl rfl ((congrArg Int.toNat hak).trans (Int.toNat_natCast _)) (by rw [hak]; omega) (by rw [hak]; omega)) ?_) | (refine' y33 zDQ ?_ ?_; rotate_left 2; exact zB7 a rfl H; rintro v N w ⟨rfl, rfl⟩ H) | refine y13 ?_ | refine y14 ?_ | (refine y17 ?_ ?_; all_goals (intro h; try (exfalso; first | ((rw [hd1] at h; cases h); done) | ((rw [hd2] at h; cases h); done) | ((rw [hd3] at h; cases h); done) | ((simp only [hv, beq_iff_eq, decide_eq_true_eq, decide_eq_false_iff_not, beq_eq_false_iff_ne, gt_iff_lt] at *; omega); done)))) | (with_reducible first | apply zB | apply zD | apply zC | apply zE | apply zF | apply zG | apply zO | apply zW) | (with_reducible apply zV; intro w hcl; replace H := H.ext hcl; clear hcl) | refine zA ?_ | refine y20 mixed ?_ | refine y22 ?_ | (refine y23 ?_ ?_; all_goals (intro h; try (exfalso; first | ((rw [hd1] at h; cases h); done) | ((rw [hd2] at h; cases h); done) | ((rw [hd3] at h; cases h); done) | ((simp only [hv, beq_iff_eq, decide_eq_true_eq, decide_eq_false_iff_not, beq_eq_false_iff_ne, gt_iff_lt] at *; omega); done)))) | fail)
      all_goals first
       | (refine zU (vs := [_]) ⟨zZ rfl, trivial⟩ H ⟨0, _, rfl, rfl, by omega, rfl, by simp only; omega, fun h => absurd h.1 (by simp), fun hl y l r hy hr => ?_⟩
          obtain ⟨e1, e2, _⟩ := hC.last hb7 hdr (hy.2 ▸ hr)
          have := hy.1; omega)
       | trace_state
    ·have hd2 : decide (IntKind.u64.wrap (b : Int) < 128) = false := decide_eq_false (by rw [hv]; omega)
     have hk8 : k ≤ 8 := by omega
     have hti : IntKind.u64.wrap (((128 ^ k : Nat) : Int) * 128) = ((128 ^ (k + 1) : Nat) : Int) := by
      have h8 : 128 ^ (k + 1) ≤ 9223372036854775808 := by
       have := Nat.pow_le_pow_right (n := 128) (by decide) (show k + 1 ≤ 9 by omega)
       simpa using this
      rw [show (((128 ^ k : Nat) : Int) * 128) = ((128 ^ (k + 1) : Nat) : Int) by rw [Nat.pow_succ, Int.natCast_mul]; rfl, zBI (by omega)]
     repeat' (first | refine y1 sg ?_ | refine y2 sg ?_ | refine y4 ?_ | refine y5 sg ?_ | refine y8 sg H ?_ | (refine zo rfl rfl (Yq.strIxB sg hb rfl rfl rfl rfl rfl ((congrArg Int.toNat hak).trans (Int.toNat_natCast _)) (by rw [hak]; omega) (by rw [hak]; omega)) ?_) | refine y13 ?_ | refine y14 ?_ | (refine y17 ?_ ?_; all_goals (intro h; try (exfalso; first | ((rw [hd1] at h; cases h); done) | ((rw [hd2] at h; cases h); done) | ((simp only [hv, beq_iff_eq, decide_eq_true_eq, decide_eq_false_iff_not, beq_eq_false_iff_ne, gt_iff_lt] at *; omega); done)))) | (with_reducible first | apply zB | apply zD | apply zC | apply zE | apply zG) | (with_reducible apply zV; intro w hcl; replace H := H.ext hcl; clear hcl) | refine zA ?_ | refine y20 mixed ?_ | refine y22 ?_ | (refine y23 ?_ ?_; all_goals (intro h; try (exfalso; first | ((rw [hd1] at h; cases h); done) | ((rw [hd2] at h; cases h); done) | ((simp only [hv, beq_iff_eq, decide_eq_true_eq, decide_eq_false_iff_not, beq_eq_false_iff_ne, gt_iff_lt] at *; omega); done)))) | fail)
     all_goals first
      | exact zJ (k + 1, n + b % 128 * 128 ^ k) rfl ⟨congrArg (Value.int .u64) hsum, congrArg (Value.int .u64) hti, zT (by omega), trivial⟩ ⟨H, by simp only; omega, by simp only; omega, zIL hn (by omega), hS.next (by omega) hb8 hdr, hC.next (by omega) hb8 hdr⟩ (by simp only; omega)
      | trace_state
  ·have hd1 : decide (IntKind.i64.wrap ((a : Int) + (k : Int)) ≥ (s.size : Int)) = true := decide_eq_true (by rw [hak]; omega)
   repeat' (first | refine y1 sg ?_ | refine y2 sg ?_ | refine y3 ?_ | refine y4 ?_ | refine y7 sg H ?_ | refine y8 sg H ?_ | (refine' y33 zDQ ?_ ?_; rotate_left 2; exact zB7 a rfl H; rintro v N w ⟨rfl, rfl⟩ H) | (with_reducible first | apply zB | apply zD | apply zC | apply zE | apply zF | apply zO | apply zW) | (with_reducible apply zV; intro w hcl; replace H := H.ext hcl; clear hcl) | refine zA ?_ | refine y20 mixed ?_ | (refine y23 ?_ ?_; all_goals (intro h; try (exfalso; first | ((rw [hd1] at h; cases h); done)))) | fail)
   all_goals first
    | exact zU (vs := [_]) ⟨zZ rfl, trivial⟩ H ⟨0, _, rfl, rfl, by omega, rfl, by simp only; omega, fun h => absurd h.1 (by simp), fun _ y l r hy hr => (hC.gone (by omega) (hy.2 ▸ hr)).elim⟩
    | trace_state
 ·have hd : (p.e != 0) = true := by simp [he]
  refine enter [.tmp 4] Tryz.func205 rfl Tryz.ntmps205 rfl rfl ?_
  repeat' (first | refine y1 sg ?_ | refine y3 ?_ | refine y7 sg H ?_ | (with_reducible first | apply zB | apply zD | apply zC | apply zF | apply zO) | refine zA ?_ | (refine y23 ?_ ?_; all_goals (intro h; try (exfalso; first | ((rw [hd] at h; cases h); done)))) | fail)
  exact zU (vs := [_]) ⟨zZ rfl, trivial⟩ H ⟨0, p, rfl, rfl, by omega, rfl, Step.dead (by omega) (fun h => he h.1) (fun h => he h.1)⟩
end Go.Proofs.YtggolnppckpdlaaGreat
