/- Texts of ours, joined: the steps of the proof, or the claim's theorem. -/
import Derived.Test.YtggolnppckpdlaaGreatR33
import Derived.Test.YtggolnppckpdlaaGreatR34
import Derived.Test.YtggolnppckpdlaaGreatR38
set_option linter.unusedSimpArgs false
set_option linter.unusedVariables false
namespace Go.Proofs.YtggolnppckpdlaaGreat
open Go Go.Sk Go.RowKit
attribute [local irreducible] Go.Calls
def zOp (pr : Nat) (s : ByteArray) (G : zI) (p : Rs) (K : Nat) : zI → Value → Prop := fun N v => ∃ (x : Nat) (p' : Rs), v = .int .u64 (x : Int) ∧ N = rdR pr s p' :: G ∧ x < 256 ^ K ∧ p'.bad = p.bad ∧ Step (zN s) (zDp K) p p' x
theorem zKG {n b : Nat} (hn : n < 72057594037927936) (hb : b < 256) : IntKind.u64.wrap (IntKind.u64.wrap ((n : Int) * 256) + IntKind.u64.wrap (b : Int)) = ((n * 256 + b : Nat) : Int) := by
 rw [show ((n : Int) * 256) = ((n * 256 : Nat) : Int) by rw [Int.natCast_mul]; rfl, zBI (n := n * 256) (by omega), zBI (n := b) (by omega), ← Int.natCast_add, zBI (by omega)]
set_option maxHeartbeats 1000000 in
theorem zIw {w0 w : World} {G : zI} {pr : Nat} {s : ByteArray} {p : Rs} (hp : p.pos ≤ s.size) (hs : s.size ≤ 1073741824) (H : St w0 (rdR pr s p :: G) w) :
  Calls Tryz.prog 82 [ptr pr, .int .i64 1].toArray w (zf (zOp pr s G p 1) w0) := by
 have hlen := zP s
 have hbt := zAy s
 have hd0 : ((0 : Int) != 0) = false := by decide
 by_cases he : p.e = 0
 ·obtain ⟨a, e, to_, bad⟩ := p
  simp only at he hp
  subst he
  by_cases hn : a + 1 ≤ s.size
  ·have hxl : (((zN s).drop a).take 1).length = 1 := by rw [List.length_take, List.length_drop]; omega
   have hbx : Byt (((zN s).drop a).take 1) := (hbt.drop a).take 1
   have hdrop : (zN s).drop a = ((zN s).drop a).take 1 ++ (zN s).drop (a + 1) := by rw [← List.drop_drop, List.take_append_drop]
   have hat : ∀ i, i < 1 → (((zN s).drop a).take 1).getD i 0 = zAI s (a + i) := fun i hi => by
    rw [← zB6 s (by omega)]
    simp [List.getD_eq_getElem?_getD, List.getElem?_take, hi, List.getElem?_drop]
   obtain ⟨x, hx⟩ : ∃ x, ((zN s).drop a).take 1 = x := ⟨_, rfl⟩
   rw [hx] at hxl hbx hdrop hat
   have hlt0 : decide (IntKind.i64.wrap ((s.size : Int) - (a : Int)) < 1) = false := decide_eq_false (by rw [w64 (by omega) (by omega)]; omega)
   refine enter [.tmp 4] Tryz.func82 rfl Tryz.ntmps82 rfl rfl ?_
   repeat' (first | refine y1 sg ?_ | refine y2 sg ?_ | refine y3 ?_ | refine y4 ?_ | refine y7 sg H ?_ | refine y8 sg H ?_ | (with_reducible first | apply zB | apply zD | apply zC | apply zE | apply zG) | (with_reducible apply zV; intro w hcl; replace H := H.ext hcl; clear hcl) | refine zA ?_ | refine y20 mixed ?_ | refine y22 ?_ | (refine y23 ?_ ?_; all_goals (intro h; try (exfalso; first | ((rw [hd0] at h; cases h); done) | ((rw [hlt0] at h; cases h); done)))) | fail)
   refine zK [(5, 6), (30, 49)] (fun i : Nat => [(5, .int .u64 ((beV (x.take i) : Nat) : Int)), (6, .int .i64 ((i : Nat) : Int))]) (fun i w => St w0 (rdR pr s ⟨a, 0, to_, bad⟩ :: G) w ∧ i ≤ 1) (fun i => 1 - i) 0 ⟨rfl, rfl, trivial⟩ ⟨H, by omega⟩ ?_
   clear H
   rintro i gh w ⟨H, hi⟩
   have hV := zDT hbx i
   by_cases hik : i < 1
   ·have hd : decide ((i : Int) < 1) = true := decide_eq_true (by omega)
    obtain ⟨b, hb⟩ : ∃ b, zAI s (a + i) = b := ⟨_, rfl⟩
    have hb8 : b < 256 := hb ▸ zBA s (a + i)
    have hak : IntKind.i64.wrap ((a : Int) + (i : Int)) = ((a + i : Nat) : Int) := by rw [w64 (by omega) (by omega)]; omega
    have hnx : beV (x.take (i + 1)) = beV (x.take i) * 256 + b := by
     rw [List.take_succ_eq_append_getElem (by omega), zCP, ← hb, ← hat i hik]
     simp [List.getElem?_eq_getElem (show i < x.length by omega)]
    have hVs : beV (x.take i) < 72057594037927936 := Nat.lt_of_lt_of_le hV (Nat.le_trans (Nat.pow_le_pow_right (by decide) (show i ≤ 7 by omega)) (by decide))
    repeat' (first | refine y1 sg ?_ | refine y2 sg ?_ | refine y4 ?_ | refine y8 sg H ?_ | (refine zo rfl rfl (Yq.strIxB sg hb rfl rfl rfl rfl rfl ((congrArg Int.toNat hak).trans (Int.toNat_natCast _)) (by rw [hak]; omega) (by rw [hak]; omega)) ?_) | (with_reducible first | apply zB | apply zD | apply zC | apply zE | apply zG) | (with_reducible apply zV; intro w hcl; replace H := H.ext hcl; clear hcl) | refine zA ?_ | refine y20 mixed ?_ | (refine y23 ?_ ?_; all_goals (intro h; try (exfalso; first | ((rw [hd] at h; cases h); done)))) | fail)
    exact zJ (i + 1) rfl ⟨congrArg (Value.int .u64) (by rw [zKG hVs hb8, hnx]), congrArg (Value.int .i64) (by rw [w64 (by omega) (by omega)]; omega), trivial⟩ ⟨H, by omega⟩ (by omega)
   ·have hd : decide ((i : Int) < 1) = false := decide_eq_false (by omega)
    have hVK : beV x < 256 ^ 1 := zGs hbx hxl
    have hall : x.take i = x := List.take_of_length_le (by omega)
    have hw : IntKind.i64.wrap ((a : Int) + 1) = ((a + 1 : Nat) : Int) := by rw [w64 (by omega) (by omega)]; omega
    repeat' (first | refine y1 sg ?_ | refine y3 ?_ | refine y7 sg H ?_ | (refine y11 sg H ?_; intro w H) | (with_reducible first | apply zB | apply zD | apply zC | apply zF | apply zL | apply zS) | refine zA ?_ | refine y24 ?_ | (refine y23 ?_ ?_; all_goals (intro h; try (exfalso; first | ((rw [hd] at h; cases h); done)))) | fail)
    rw [hw] at H
    refine zU (vs := [_]) ⟨zZ rfl, trivial⟩ H ⟨beV x, ⟨a + 1, 0, to_, bad⟩, congrArg (Value.int .u64) (by rw [hall]), rfl, hVK, rfl, by simp only; omega, fun hl => ⟨hl, _, ⟨hVK, (zNN hbx hxl).symm⟩, hdrop⟩, fun hl y l r hy hr => ?_⟩
    obtain ⟨hy1, rfl⟩ := hy
    simp only at hr
    rw [hdrop] at hr
    obtain ⟨e1, e2⟩ := List.append_inj hr (by rw [hxl]; rfl)
    exact ⟨hl, by rw [e1]; exact V_be1 (by omega), e2⟩
  ·have hlt1 : decide (IntKind.i64.wrap ((s.size : Int) - (a : Int)) < 1) = true := decide_eq_true (by rw [w64 (by omega) (by omega)]; omega)
   refine enter [.tmp 4] Tryz.func82 rfl Tryz.ntmps82 rfl rfl ?_
   repeat' (first | refine y1 sg ?_ | refine y2 sg ?_ | refine y3 ?_ | refine y4 ?_ | refine y7 sg H ?_ | refine y8 sg H ?_ | (refine' y33 zDQ ?_ ?_; rotate_left 2; exact zB7 a rfl H; rintro v N w ⟨rfl, rfl⟩ H) | (with_reducible first | apply zB | apply zD | apply zC | apply zF | apply zG | apply zO) | (with_reducible apply zV; intro w hcl; replace H := H.ext hcl; clear hcl) | refine zA ?_ | refine y20 mixed ?_ | refine y22 ?_ | (refine y23 ?_ ?_; all_goals (intro h; try (exfalso; first | ((rw [hd0] at h; cases h); done) | ((rw [hlt1] at h; cases h); done)))) | fail)
   exact zU (vs := [_]) ⟨zZ rfl, trivial⟩ H ⟨0, _, rfl, rfl, by decide, rfl, by simp only; omega, fun h => absurd h.1 (by simp), fun _ y l r hy hr => (by have hle := congrArg List.length hr; rw [List.length_drop, List.length_append, hy.2, show (beK 1 y).length = 1 from rfl] at hle; simp only at hle; omega)⟩
 ·have hd : (p.e != 0) = true := by simp [he]
  refine enter [.tmp 4] Tryz.func82 rfl Tryz.ntmps82 rfl rfl ?_
  repeat' (first | refine y1 sg ?_ | refine y3 ?_ | refine y7 sg H ?_ | (with_reducible first | apply zB | apply zD | apply zC | apply zF | apply zO) | refine zA ?_ | (refine y23 ?_ ?_; all_goals (intro h; try (exfalso; first | ((rw [hd] at h; cases h); done)))) | fail)
  exact zU (vs := [_]) ⟨zZ rfl, trivial⟩ H ⟨0, p, rfl, rfl, by decide, rfl, Step.dead (by omega) (fun h => he h.1) (fun h => he h.1)⟩
set_option maxHeartbeats 1000000 in
theorem zOq {w0 w : World} {G : zI} {pr : Nat} {s : ByteArray} {p : Rs} (hp : p.pos ≤ s.size) (hs : s.size ≤ 1073741824) (H : St w0 (rdR pr s p :: G) w) :
  Calls Tryz.prog 82 [ptr pr, .int .i64 4].toArray w (zf (zOp pr s G p 4) w0) := by
 have hlen := zP s
 have hbt := zAy s
 have hd0 : ((0 : Int) != 0) = false := by decide
 by_cases he : p.e = 0
 ·obtain ⟨a, e, to_, bad⟩ := p
  simp only at he hp
  subst he
  by_cases hn : a + 4 ≤ s.size
  ·have hxl : (((zN s).drop a).take 4).length = 4 := by rw [List.length_take, List.length_drop]; omega
   have hbx : Byt (((zN s).drop a).take 4) := (hbt.drop a).take 4
   have hdrop : (zN s).drop a = ((zN s).drop a).take 4 ++ (zN s).drop (a + 4) := by rw [← List.drop_drop, List.take_append_drop]
   have hat : ∀ i, i < 4 → (((zN s).drop a).take 4).getD i 0 = zAI s (a + i) := fun i hi => by
    rw [← zB6 s (by omega)]
    simp [List.getD_eq_getElem?_getD, List.getElem?_take, hi, List.getElem?_drop]
   obtain ⟨x, hx⟩ : ∃ x, ((zN s).drop a).take 4 = x := ⟨_, rfl⟩
   rw [hx] at hxl hbx hdrop hat
   have hlt0 : decide (IntKind.i64.wrap ((s.size : Int) - (a : Int)) < 4) = false := decide_eq_false (by rw [w64 (by omega) (by omega)]; omega)
   refine enter [.tmp 4] Tryz.func82 rfl Tryz.ntmps82 rfl rfl ?_
   repeat' (first | refine y1 sg ?_ | refine y2 sg ?_ | refine y3 ?_ | refine y4 ?_ | refine y7 sg H ?_ | refine y8 sg H ?_ | (with_reducible first | apply zB | apply zD | apply zC | apply zE | apply zG) | (with_reducible apply zV; intro w hcl; replace H := H.ext hcl; clear hcl) | refine zA ?_ | refine y20 mixed ?_ | refine y22 ?_ | (refine y23 ?_ ?_; all_goals (intro h; try (exfalso; first | ((rw [hd0] at h; cases h); done) | ((rw [hlt0] at h; cases h); done)))) | fail)
   refine zK [(5, 6), (30, 49)] (fun i : Nat => [(5, .int .u64 ((beV (x.take i) : Nat) : Int)), (6, .int .i64 ((i : Nat) : Int))]) (fun i w => St w0 (rdR pr s ⟨a, 0, to_, bad⟩ :: G) w ∧ i ≤ 4) (fun i => 4 - i) 0 ⟨rfl, rfl, trivial⟩ ⟨H, by omega⟩ ?_
   clear H
   rintro i gh w ⟨H, hi⟩
   have hV := zDT hbx i
   by_cases hik : i < 4
   ·have hd : decide ((i : Int) < 4) = true := decide_eq_true (by omega)
    obtain ⟨b, hb⟩ : ∃ b, zAI s (a + i) = b := ⟨_, rfl⟩
    have hb8 : b < 256 := hb ▸ zBA s (a + i)
    have hak : IntKind.i64.wrap ((a : Int) + (i : Int)) = ((a + i : Nat) : Int) := by rw [w64 (by omega) (by omega)]; omega
    have hnx : beV (x.take (i + 1)) = beV (x.take i) * 256 + b := by
     rw [List.take_succ_eq_append_getElem (by omega), zCP, ← hb, ← hat i hik]
     simp [List.getElem?_eq_getElem (show i < x.length by omega)]
    have hVs : beV (x.take i) < 72057594037927936 := Nat.lt_of_lt_of_le hV (Nat.le_trans (Nat.pow_le_pow_right (by decide) (show i ≤ 7 by omega)) (by decide))
    repeat' (first | refine y1 sg ?_ | refine y2 sg ?_ | refine y4 ?_ | refine y8 sg H ?_ | (refine zo rfl rfl (Yq.strIxB sg hb rfl rfl rfl rfl rfl ((congrArg Int.toNat hak).trans (Int.toNat_natCast _)) (by rw [hak]; omega) (by rw [hak]; omega)) ?_) | (with_reducible first | apply zB | apply zD | apply zC | apply zE | apply zG) | (with_reducible apply zV; intro w hcl; replace H := H.ext hcl; clear hcl) | refine zA ?_ | refine y20 mixed ?_ | (refine y23 ?_ ?_; all_goals (intro h; try (exfalso; first | ((rw [hd] at h; cases h); done)))) | fail)
    exact zJ (i + 1) rfl ⟨congrArg (Value.int .u64) (by rw [zKG hVs hb8, hnx]), congrArg (Value.int .i64) (by rw [w64 (by omega) (by omega)]; omega), trivial⟩ ⟨H, by omega⟩ (by omega)
   ·have hd : decide ((i : Int) < 4) = false := decide_eq_false (by omega)
    have hVK : beV x < 256 ^ 4 := zGs hbx hxl
    have hall : x.take i = x := List.take_of_length_le (by omega)
    have hw : IntKind.i64.wrap ((a : Int) + 4) = ((a + 4 : Nat) : Int) := by rw [w64 (by omega) (by omega)]; omega
    repeat' (first | refine y1 sg ?_ | refine y3 ?_ | refine y7 sg H ?_ | (refine y11 sg H ?_; intro w H) | (with_reducible first | apply zB | apply zD | apply zC | apply zF | apply zL | apply zS) | refine zA ?_ | refine y24 ?_ | (refine y23 ?_ ?_; all_goals (intro h; try (exfalso; first | ((rw [hd] at h; cases h); done)))) | fail)
    rw [hw] at H
    refine zU (vs := [_]) ⟨zZ rfl, trivial⟩ H ⟨beV x, ⟨a + 4, 0, to_, bad⟩, congrArg (Value.int .u64) (by rw [hall]), rfl, hVK, rfl, by simp only; omega, fun hl => ⟨hl, _, ⟨hVK, (zNO hbx hxl).symm⟩, hdrop⟩, fun hl y l r hy hr => ?_⟩
    obtain ⟨hy1, rfl⟩ := hy
    simp only at hr
    rw [hdrop] at hr
    obtain ⟨e1, e2⟩ := List.append_inj hr (by rw [hxl]; rfl)
    exact ⟨hl, by rw [e1]; exact V_be4 (by omega), e2⟩
  ·have hlt1 : decide (IntKind.i64.wrap ((s.size : Int) - (a : Int)) < 4) = true := decide_eq_true (by rw [w64 (by omega) (by omega)]; omega)
   refine enter [.tmp 4] Tryz.func82 rfl Tryz.ntmps82 rfl rfl ?_
   repeat' (first | refine y1 sg ?_ | refine y2 sg ?_ | refine y3 ?_ | refine y4 ?_ | refine y7 sg H ?_ | refine y8 sg H ?_ | (refine' y33 zDQ ?_ ?_; rotate_left 2; exact zB7 a rfl H; rintro v N w ⟨rfl, rfl⟩ H) | (with_reducible first | apply zB | apply zD | apply zC | apply zF | apply zG | apply zO) | (with_reducible apply zV; intro w hcl; replace H := H.ext hcl; clear hcl) | refine zA ?_ | refine y20 mixed ?_ | refine y22 ?_ | (refine y23 ?_ ?_; all_goals (intro h; try (exfalso; first | ((rw [hd0] at h; cases h); done) | ((rw [hlt1] at h; cases h); done)))) | fail)
   exact zU (vs := [_]) ⟨zZ rfl, trivial⟩ H ⟨0, _, rfl, rfl, by decide, rfl, by simp only; omega, fun h => absurd h.1 (by simp), fun _ y l r hy hr => (by have hle := congrArg List.length hr; rw [List.length_drop, List.length_append, hy.2, show (beK 4 y).length = 4 from rfl] at hle; simp only at hle; omega)⟩
 ·have hd : (p.e != 0) = true := by simp [he]
  refine enter [.tmp 4] Tryz.func82 rfl Tryz.ntmps82 rfl rfl ?_
  repeat' (first | refine y1 sg ?_ | refine y3 ?_ | refine y7 sg H ?_ | (with_reducible first | apply zB | apply zD | apply zC | apply zF | apply zO) | refine zA ?_ | (refine y23 ?_ ?_; all_goals (intro h; try (exfalso; first | ((rw [hd] at h; cases h); done)))) | fail)
  exact zU (vs := [_]) ⟨zZ rfl, trivial⟩ H ⟨0, p, rfl, rfl, by decide, rfl, Step.dead (by omega) (fun h => he h.1) (fun h => he h.1)⟩
set_option maxHeartbeats 1000000 in
theorem zOr {w0 w : World} {G : zI} {pr : Nat} {s : ByteArray} {p : Rs} (hp : p.pos ≤ s.size) (hs : s.size ≤ 1073741824) (H : St w0 (rdR pr s p :: G) w) :
  Calls Tryz.prog 82 [ptr pr, .int .i64 8].toArray w (zf (zOp pr s G p 8) w0) := by
 have hlen := zP s
 have hbt := zAy s
 have hd0 : ((0 : Int) != 0) = false := by decide
 by_cases he : p.e = 0
 ·obtain ⟨a, e, to_, bad⟩ := p
  simp only at he hp
  subst he
  by_cases hn : a + 8 ≤ s.size
  ·have hxl : (((zN s).drop a).take 8).length = 8 := by rw [List.length_take, List.length_drop]; omega
   have hbx : Byt (((zN s).drop a).take 8) := (hbt.drop a).take 8
   have hdrop : (zN s).drop a = ((zN s).drop a).take 8 ++ (zN s).drop (a + 8) := by rw [← List.drop_drop, List.take_append_drop]
   have hat : ∀ i, i < 8 → (((zN s).drop a).take 8).getD i 0 = zAI s (a + i) := fun i hi => by
    rw [← zB6 s (by omega)]
    simp [List.getD_eq_getElem?_getD, List.getElem?_take, hi, List.getElem?_drop]
   obtain ⟨x, hx⟩ : ∃ x, ((zN s).drop a).take 8 = x := ⟨_, rfl⟩
   rw [hx] at hxl hbx hdrop hat
   have hlt0 : decide (IntKind.i64.wrap ((s.size : Int) - (a : Int)) < 8) = false := decide_eq_false (by rw [w64 (by omega) (by omega)]; omega)
   refine enter [.tmp 4] Tryz.func82 rfl Tryz.ntmps82 rfl rfl ?_
   repeat' (first | refine y1 sg ?_ | refine y2 sg ?_ | refine y3 ?_ | refine y4 ?_ | refine y7 sg H ?_ | refine y8 sg H ?_ | (with_reducible first | apply zB | apply zD | apply zC | apply zE | apply zG) | (with_reducible apply zV; intro w hcl; replace H := H.ext hcl; clear hcl) | refine zA ?_ | refine y20 mixed ?_ | refine y22 ?_ | (refine y23 ?_ ?_; all_goals (intro h; try (exfalso; first | ((rw [hd0] at h; cases h); done) | ((rw [hlt0] at h; cases h); done)))) | fail)
   refine zK [(5, 6), (30, 49)] (fun i : Nat => [(5, .int .u64 ((beV (x.take i) : Nat) : Int)), (6, .int .i64 ((i : Nat) : Int))]) (fun i w => St w0 (rdR pr s ⟨a, 0, to_, bad⟩ :: G) w ∧ i ≤ 8) (fun i => 8 - i) 0 ⟨rfl, rfl, trivial⟩ ⟨H, by omega⟩ ?_
   clear H
   rintro i gh w ⟨H, hi⟩
   have hV := zDT hbx i
   by_cases hik : i < 8
   ·have hd : decide ((i : Int) < 8) = true := decide_eq_true (by omega)
    obtain ⟨b, hb⟩ : ∃ b, zAI s (a + i) = b := ⟨_, rfl⟩
    have hb8 : b < 256 := hb ▸ zBA s (a + i)
    have hak : IntKind.i64.wrap ((a : Int) + (i : Int)) = ((a + i : Nat) : Int) := by rw [w64 (by omega) (by omega)]; omega
    have hnx : beV (x.take (i + 1)) = beV (x.take i) * 256 + b := by
     rw [List.take_succ_eq_append_getElem (by omega), zCP, ← hb, ← hat i hik]
     simp [List.getElem?_eq_getElem (show i < x.length by omega)]
    have hVs : beV (x.take i) < 72057594037927936 := Nat.lt_of_lt_of_le hV (Nat.le_trans (Nat.pow_le_pow_right (by decide) (show i ≤ 7 by omega)) (by decide))
    repeat' (first | refine y1 sg ?_ | refine y2 sg ?_ | refine y4 ?_ | refine y8 sg H ?_ | (refine zo rfl rfl (Yq.strIxB sg hb rfl rfl rfl rfl rfl ((congrArg Int.toNat hak).trans (Int.toNat_natCast _)) (by rw [hak]; omega) (by rw [hak]; omega)) ?_) | (with_reducible first | apply zB | apply zD | apply zC | apply zE | apply zG) | (with_reducible apply zV; intro w hcl; replace H := H.ext hcl; clear hcl) | refine zA ?_ | refine y20 mixed ?_ | (refine y23 ?_ ?_; all_goals (intro h; try (exfalso; first | ((rw [hd] at h; cases h); done)))) | fail)
    exact zJ (i + 1) rfl ⟨congrArg (Value.int .u64) (by rw [zKG hVs hb8, hnx]), congrArg (Value.int .i64) (by rw [w64 (by omega) (by omega)]; omega), trivial⟩ ⟨H, by omega⟩ (by omega)
   ·have hd : decide ((i : Int) < 8) = false := decide_eq_false (by omega)
    have hVK : beV x < 256 ^ 8 := zGs hbx hxl
    have hall : x.take i = x := List.take_of_length_le (by omega)
    have hw : IntKind.i64.wrap ((a : Int) + 8) = ((a + 8 : Nat) : Int) := by rw [w64 (by omega) (by omega)]; omega
    repeat' (first | refine y1 sg ?_ | refine y3 ?_ | refine y7 sg H ?_ | (refine y11 sg H ?_; intro w H) | (with_reducible first | apply zB | apply zD | apply zC | apply zF | apply zL | apply zS) | refine zA ?_ | refine y24 ?_ | (refine y23 ?_ ?_; all_goals (intro h; try (exfalso; first | ((rw [hd] at h; cases h); done)))) | fail)
    rw [hw] at H
    refine zU (vs := [_]) ⟨zZ rfl, trivial⟩ H ⟨beV x, ⟨a + 8, 0, to_, bad⟩, congrArg (Value.int .u64) (by rw [hall]), rfl, hVK, rfl, by simp only; omega, fun hl => ⟨hl, _, ⟨hVK, (zNP hbx hxl).symm⟩, hdrop⟩, fun hl y l r hy hr => ?_⟩
    obtain ⟨hy1, rfl⟩ := hy
    simp only at hr
    rw [hdrop] at hr
    obtain ⟨e1, e2⟩ := List.append_inj hr (by rw [hxl]; rfl)
    exact ⟨hl, by rw [e1]; exact zGr (by omega), e2⟩
  ·have hlt1 : decide (IntKind.i64.wrap ((s.size : Int) - (a : Int)) < 8) = true := decide_eq_true (by rw [w64 (by omega) (by omega)]; omega)
   refine enter [.tmp 4] Tryz.func82 rfl Tryz.ntmps82 rfl rfl ?_
   repeat' (first | refine y1 sg ?_ | refine y2 sg ?_ | refine y3 ?_ | refine y4 ?_ | refine y7 sg H ?_ | refine y8 sg H ?_ | (refine' y33 zDQ ?_ ?_; rotate_left 2; exact zB7 a rfl H; rintro v N w ⟨rfl, rfl⟩ H) | (with_reducible first | apply zB | apply zD | apply zC | apply zF | apply zG | apply zO) | (with_reducible apply zV; intro w hcl; replace H := H.ext hcl; clear hcl) | refine zA ?_ | refine y20 mixed ?_ | refine y22 ?_ | (refine y23 ?_ ?_; all_goals (intro h; try (exfalso; first | ((rw [hd0] at h; cases h); done) | ((rw [hlt1] at h; cases h); done)))) | fail)
   exact zU (vs := [_]) ⟨zZ rfl, trivial⟩ H ⟨0, _, rfl, rfl, by decide, rfl, by simp only; omega, fun h => absurd h.1 (by simp), fun _ y l r hy hr => (by have hle := congrArg List.length hr; rw [List.length_drop, List.length_append, hy.2, show (beK 8 y).length = 8 from rfl] at hle; simp only at hle; omega)⟩
 ·have hd : (p.e != 0) = true := by simp [he]
  refine enter [.tmp 4] Tryz.func82 rfl Tryz.ntmps82 rfl rfl ?_
  repeat' (first | refine y1 sg ?_ | refine y3 ?_ | refine y7 sg H ?_ | (with_reducible first | apply zB | apply zD | apply zC | apply zF | apply zO) | refine zA ?_ | (refine y23 ?_ ?_; all_goals (intro h; try (exfalso; first | ((rw [hd] at h; cases h); done)))) | fail)
  exact zU (vs := [_]) ⟨zZ rfl, trivial⟩ H ⟨0, p, rfl, rfl, by decide, rfl, Step.dead (by omega) (fun h => he h.1) (fun h => he h.1)⟩
theorem zLV {w0 w : World} {G : zI} {pr : Nat} {s : ByteArray} {p : Rs} {q : Int} (n : Nat) (hq : q = (n : Int)) (hn : n ≤ 1073741824) (hp : p.pos ≤ s.size) (hs : s.size ≤ 1073741824) (H : St w0 (rdR pr s p :: G) w) :
  Calls Tryz.prog 81 [ptr pr, .int .i64 q].toArray w (zf (fun N v => ∃ (x : ByteArray) (p' : Rs), v = .string x ∧ N = rdR pr s p' :: G ∧ x.size ≤ n ∧ p'.bad = p.bad ∧ Step (zN s) (rawP n) p p' x) w0) := by
 subst hq
 have hlen := zP s
 have hmx : (if (0 : Int) > (n : Int) then (0 : Int) else (n : Int)) = (n : Int) := if_neg (by omega)
 by_cases he : p.e = 0
 ·have hd0 : (p.e != 0) = false := by simp [he]
  obtain ⟨a, ha⟩ : ∃ a, p.pos = a := ⟨_, rfl⟩
  rw [ha] at hp
  by_cases hl : a + n ≤ s.size
  ·have hx : zN (s.extract a (a + n)) = ((zN s).drop a).take n := by rw [zc]; congr 1; omega
   have hxs : (s.extract a (a + n)).size = n := by rw [← zP, hx, List.length_take, List.length_drop]; omega
   have hdr : (zN s).drop a = zN (s.extract a (a + n)) ++ (zN s).drop (a + n) := by rw [hx, ← List.drop_drop, List.take_append_drop]
   have hlt0 : decide (IntKind.i64.wrap ((s.size : Int) - (p.pos : Int)) < (n : Int)) = false := decide_eq_false (by rw [ha];rw [w64 (by omega) (by omega)]; omega)
   have hw : IntKind.i64.wrap ((p.pos : Int) + (n : Int)) = ((a + n : Nat) : Int) := by rw [ha];rw [w64 (by omega) (by omega)]; omega
   refine enter [.tmp 4] Tryz.func81 rfl Tryz.ntmps81 rfl rfl ?_
   rw [← hmx] at hlt0 hw
   repeat' (first | refine y1 sg ?_ | refine y2 sg ?_ | refine y3 ?_ | refine y4 ?_ | refine y7 sg H ?_ | refine y8 sg H ?_ | (refine y11 sg H ?_; intro w H) | ((with_reducible apply zo); exact rfl; exact rfl; exact (Yq.strCut sg (i := a) (j := a + n) rfl rfl rfl rfl rfl rfl ((Int.toNat_natCast _).trans ha) ((congrArg Int.toNat hw).trans (Int.toNat_natCast _)) (by omega) (by rw [hw]; omega) (by rw [hw]; omega))) | (with_reducible first | apply zB | apply zD | apply zC | apply zF | apply zG) | (with_reducible apply zV; intro w hcl; replace H := H.ext hcl; clear hcl) | refine zA ?_ | refine y20 mixed ?_ | (refine y23 ?_ ?_; all_goals (intro h; try (exfalso; first | ((rw [hd0] at h; cases h); done) | ((rw [hlt0] at h; cases h); done)))) | fail)
   rw [hw] at H
   refine zU (vs := [_]) ⟨zZ rfl, trivial⟩ H ⟨_, ⟨a + n, p.e, p.to, p.bad⟩, rfl, rfl, by omega, rfl, by simp only; omega, fun h => ⟨h, _, ⟨hxs, rfl⟩, by rw [ha]; exact hdr⟩, fun h y l r hy hr => ?_⟩
   obtain ⟨hy1, rfl⟩ := hy
   rw [ha, hdr] at hr
   obtain ⟨e1, e2⟩ := List.append_inj hr (by rw [zP, zP]; omega)
   exact ⟨h, zCt e1, e2⟩
  ·have hlt1 : decide (IntKind.i64.wrap ((s.size : Int) - (p.pos : Int)) < (n : Int)) = true := decide_eq_true (by rw [ha];rw [w64 (by omega) (by omega)]; omega)
   refine enter [.tmp 4] Tryz.func81 rfl Tryz.ntmps81 rfl rfl ?_
   rw [← hmx] at hlt1
   repeat' (first | refine y1 sg ?_ | refine y2 sg ?_ | refine y3 ?_ | refine y4 ?_ | refine y7 sg H ?_ | refine y8 sg H ?_ | (refine' y33 zDQ ?_ ?_; rotate_left 2; exact zB7 p.pos rfl H; rintro v N w ⟨rfl, rfl⟩ H) | (with_reducible first | apply zB | apply zD | apply zC | apply zF | apply zG | apply zO) | (with_reducible apply zV; intro w hcl; replace H := H.ext hcl; clear hcl) | refine zA ?_ | refine y20 mixed ?_ | (refine y23 ?_ ?_; all_goals (intro h; try (exfalso; first | ((rw [hd0] at h; cases h); done) | ((rw [hlt1] at h; cases h); done)))) | fail)
   refine zU (vs := [_]) ⟨zZ rfl, trivial⟩ H ⟨_, ⟨p.pos, 8, p.pos, p.bad⟩, rfl, rfl, Nat.zero_le _, rfl, by simp only; omega, fun h => absurd h.1 (by simp), fun h y l r hy hr => ?_⟩
   obtain ⟨hy1, rfl⟩ := hy
   have := congrArg List.length hr
   rw [List.length_drop, List.length_append, zP, zP] at this
   omega
 ·have hd : (p.e != 0) = true := by simp [he]
  refine enter [.tmp 4] Tryz.func81 rfl Tryz.ntmps81 rfl rfl ?_
  repeat' (first | refine y1 sg ?_ | refine y3 ?_ | refine y7 sg H ?_ | (with_reducible first | apply zB | apply zD | apply zC | apply zF | apply zO) | refine zA ?_ | (refine y23 ?_ ?_; all_goals (intro h; try (exfalso; first | ((rw [hd] at h; cases h); done)))) | fail)
  exact zU (vs := [_]) ⟨zZ rfl, trivial⟩ H ⟨ByteArray.empty, p, rfl, rfl, Nat.zero_le _, rfl, Step.dead (by omega) (fun h => he h.1) (fun h => he h.1)⟩
def TextRR (pr : Nat) (s : ByteArray) (G : zI) (p : Rs) (most : Nat) : zI → Value → Prop := fun N v => ∃ (x : ByteArray) (p' : Rs), v = .string x ∧ N = rdR pr s p' :: G ∧ x.size ≤ most ∧ p'.bad = p.bad ∧ Step (zN s) (zFH most) p p' x
set_option maxHeartbeats 1000000 in
theorem zOs {w0 w : World} {G : zI} {pr : Nat} {s : ByteArray} {p : Rs} (most : Nat) (hm : most ≤ 1073741824) (hp : p.pos ≤ s.size) (hs : s.size ≤ 1073741824) (H : St w0 (rdR pr s p :: G) w) :
  Calls Tryz.prog 164 [ptr pr, .int .i64 (most : Int)].toArray w (zf (TextRR pr s G p most) w0) := by
 have hlen := zP s
 have hmw : IntKind.u64.wrap (if 0 > (most : Int) then 0 else (most : Int)) = (most : Int) := by rw [if_neg (by omega), zBI (by omega)]
 refine enter [.tmp 4] Tryz.func164 rfl Tryz.ntmps164 rfl rfl ?_
 repeat' (first | refine y1 sg ?_ | refine y3 ?_ | refine y7 sg H ?_ | (refine' y33 zMx ?_ ?_; rotate_left 2; exact zHK most hmw (by omega) hp hs H; rintro v N w ⟨n, p', rfl, rfl, hn, hb, hS⟩ H) | (with_reducible first | apply zB | apply zD | apply zC) | refine zA ?_ | fail)
 obtain ⟨hi, hsnd, hcpl⟩ := hS
 by_cases he' : p'.e = 0
 ·have hd' : (p'.e != 0) = false := by simp [he']
  have hz : IntKind.u64.wrap (IntKind.i64.wrap ((s.size : Int) - (p'.pos : Int))) = ((s.size - p'.pos : Nat) : Int) := by rw [w64 (by omega) (by omega), show (s.size : Int) - (p'.pos : Int) = ((s.size - p'.pos : Nat) : Int) by omega, zBI (by omega)]
  have hnn : IntKind.i64.wrap (n : Int) = (n : Int) := w64 (by omega) (by omega)
  by_cases hl : s.size < p'.pos + n
  ·have hlt : decide (IntKind.u64.wrap (IntKind.i64.wrap ((s.size : Int) - (p'.pos : Int))) < (n : Int)) = true := decide_eq_true (by rw [hz]; omega)
   repeat' (first | refine y1 sg ?_ | refine y2 sg ?_ | refine y3 ?_ | refine y4 ?_ | refine y8 sg H ?_ | (refine y11 sg H ?_; intro w H) | (refine' y33 zDQ ?_ ?_; rotate_left 2; exact zB7 (p := ⟨p.pos, p'.e, p'.to, p'.bad⟩) p.pos rfl H; rintro v N w ⟨rfl, rfl⟩ H) | (with_reducible first | apply zB | apply zD | apply zC | apply zF | apply zG | apply zO) | (with_reducible apply zV; intro w hcl; replace H := H.ext hcl; clear hcl) | refine zA ?_ | refine y20 mixed ?_ | (refine y23 ?_ ?_; all_goals (intro h; try (exfalso; first | ((rw [hd'] at h; cases h); done) | ((rw [hlt] at h; cases h); done)))) | fail)
   exact zU (vs := [_]) ⟨zZ rfl, trivial⟩ H ⟨ByteArray.empty, _, rfl, rfl, Nat.zero_le _, hb, by simp only; omega, fun h => absurd h.1 (by simp), fun hl y l r hy hr => (by
    obtain ⟨hy1, rfl⟩ := hy
    rw [List.append_assoc] at hr
    obtain ⟨e1, e2, e3⟩ := hcpl hl y.size _ _ ⟨by omega, rfl⟩ hr
    have := congrArg List.length e3
    rw [List.length_drop, List.length_append, zP, zP] at this
    omega)⟩
  ·have hlt : decide (IntKind.u64.wrap (IntKind.i64.wrap ((s.size : Int) - (p'.pos : Int))) < (n : Int)) = false := decide_eq_false (by rw [hz]; omega)
   repeat' (first | refine y1 sg ?_ | refine y2 sg ?_ | refine y3 ?_ | refine y4 ?_ | refine y8 sg H ?_ | (refine' y33 ent81 ?_ ?_; rotate_left 2; exact zLV n hnn (by omega) (Nat.le_trans hi (Nat.le_of_eq hlen)) hs H; rintro v N w ⟨x, p2, rfl, rfl, hxn, hb2, hS2⟩ H) | (with_reducible first | apply zB | apply zD | apply zC | apply zF | apply zG) | (with_reducible apply zV; intro w hcl; replace H := H.ext hcl; clear hcl) | refine zA ?_ | refine y20 mixed ?_ | (refine y23 ?_ ?_; all_goals (intro h; try (exfalso; first | ((rw [hd'] at h; cases h); done) | ((rw [hlt] at h; cases h); done)))) | fail)
   have hx : zN (s.extract p'.pos (p'.pos + n)) = ((zN s).drop p'.pos).take n := by rw [zc]; congr 1; omega
   have hxs : (s.extract p'.pos (p'.pos + n)).size = n := by rw [← zP, hx, List.length_take, List.length_drop]; omega
   have hdr : (zN s).drop p'.pos = zN (s.extract p'.pos (p'.pos + n)) ++ (zN s).drop (p'.pos + n) := by rw [hx, ← List.drop_drop, List.take_append_drop]
   obtain ⟨hi2, hsnd2, hcpl2⟩ := hS2
   refine zU (vs := [_]) ⟨zZ rfl, trivial⟩ H ⟨x, p2, rfl, rfl, by omega, hb2.trans hb, hi2, fun h => ?_, fun hl y l r hy hr => ?_⟩
   ·obtain ⟨h1, l, ⟨h3, rfl⟩, h2⟩ := hsnd2 h
    obtain ⟨h4, l, ⟨_, rfl⟩, h5⟩ := hsnd h1
    exact ⟨h4, _, ⟨by omega, rfl⟩, by rw [h5, h3, List.append_assoc, h2]⟩
   ·obtain ⟨hy1, rfl⟩ := hy
    rw [List.append_assoc] at hr
    obtain ⟨e1, e2, e3⟩ := hcpl hl y.size _ _ ⟨by omega, rfl⟩ hr
    exact hcpl2 e1 y _ r ⟨by omega, rfl⟩ e3
 ·have hd' : (p'.e != 0) = true := by simp [he']
  repeat' (first | refine y1 sg ?_ | (with_reducible first | apply zB | apply zD | apply zC | apply zF | apply zO) | refine zA ?_ | (refine y23 ?_ ?_; all_goals (intro h; try (exfalso; first | ((rw [hd'] at h; cases h); done)))) | fail)
  exact zU (vs := [_]) ⟨zZ rfl, trivial⟩ H ⟨ByteArray.empty, _, rfl, rfl, Nat.zero_le _, hb, hi, fun h => absurd h.1 he', fun hl y l r hy hr => (by
   obtain ⟨hy1, rfl⟩ := hy
   rw [List.append_assoc] at hr
   exact absurd (hcpl hl y.size _ _ ⟨by omega, rfl⟩ hr).1.1 he')⟩
end Go.Proofs.YtggolnppckpdlaaGreat
set_option linter.unusedSimpArgs false
set_option linter.unusedVariables false
namespace Go.Proofs.YtggolnppckpdlaaGreat
open Go Go.Sk Go.RowKit
attribute [local irreducible] Go.Calls
abbrev xr (br pr : Nat) (b : Bool) : Nat × Obj := cb br [ptr pr, .bool (!b)] 132
def XR {α : Type} (br pr : Nat) (s : ByteArray) (G : zI) (p : Rs) (enc : α → Value) (P : α → List Nat → Prop) (ok : α → Prop) : zI → Value → Prop :=
 fun N v => ∃ (x : α) (p' : Rs), v = enc x ∧ N = rdR pr s p' :: xr br pr p'.bad :: G ∧ ok x ∧ Step (zN s) P p p' x
theorem zEK {w0 w : World} {G : zI} {br pr : Nat} {s : ByteArray} {p : Rs} (hp : p.pos ≤ s.size) (hs : s.size ≤ 1073741824) (H : St w0 (rdR pr s p :: xr br pr p.bad :: G) w) :
  Calls Tryz.prog 162 [ptr br].toArray w (zf (XR br pr s G p (Value.int .i64) (ze 4611686018427387904) (fun x => 0 ≤ x ∧ x ≤ 4611686018427387904)) w0) := by
 refine enter [.tmp 2] Tryz.func162 rfl Tryz.ntmps162 rfl rfl ?_
 repeat' (first | refine y1 sg ?_ | refine y3 ?_ | refine y7 sg H ?_ | (refine' y33 zMx ?_ ?_; rotate_left 2; exact zHK 4611686018427387904 rfl (by omega) hp hs H; rintro v N w ⟨x, p', rfl, rfl, hx, hb, hS⟩ H) | (with_reducible first | apply zB | apply zD | apply zC | apply zF) | refine zA ?_ | fail)
 rw [← hb] at H
 exact zU (vs := [_]) ⟨zZ rfl, trivial⟩ H ⟨(x : Int), p', congrArg (Value.int .i64) (w64 (by omega) (by omega)), rfl, ⟨by omega, by omega⟩, hS.num (by omega)⟩
theorem Step.cap {B : List Nat} {p p1 : Rs} {x : Int} (m : Nat) {M : Nat} (hM : m ≤ M) (h : Step B (ze M) p p1 x) : Step B (ze m) p ⟨p1.pos, p1.e, p1.to, p1.bad || decide (x > m)⟩ (if x > m then 0 else x) := by
 refine ⟨h.inv, fun hl => ?_, fun hl y l r hy hr => ?_⟩
 ·obtain ⟨h1, h2⟩ := hl
  simp only at h1 h2
  have h3 : p1.bad = false ∧ ¬ x > m := by simpa using h2
  obtain ⟨h4, l, ⟨a, b, c⟩, h6⟩ := h.snd ⟨h1, h3.1⟩
  rw [if_neg h3.2]
  exact ⟨h4, l, ⟨a, by omega, c⟩, h6⟩
 ·obtain ⟨a, b, c⟩ := hy
  obtain ⟨e1, e2, e3⟩ := h.cpl hl y l r ⟨a, by omega, c⟩ hr
  subst e2
  have : ¬ x > m := by omega
  rw [if_neg this]
  exact ⟨⟨e1.1, by simp [e1.2, this]⟩, rfl, e3⟩
theorem zA2 {w0 w : World} {G : zI} {br pr : Nat} {s : ByteArray} {p : Rs} (hp : p.pos ≤ s.size) (hs : s.size ≤ 1073741824) (H : St w0 (rdR pr s p :: xr br pr p.bad :: G) w) :
  Calls Tryz.prog 166 [ptr br].toArray w (zf (XR br pr s G p (Value.int .i64) (ze 1000) (fun x => 0 ≤ x ∧ x ≤ 1000)) w0) := by
 refine enter [.tmp 2] Tryz.func166 rfl Tryz.ntmps166 rfl rfl ?_
 repeat' (first | refine y1 sg ?_ | refine y3 ?_ | (refine y11 sg H ?_; intro w H) | (refine' y33 zBg ?_ ?_; rotate_left 2; exact zEK hp hs H; rintro v N w ⟨x, p1, rfl, rfl, hx, hS⟩ H) | (with_reducible first | apply zB | apply zD | apply zC | apply zF | apply zG | apply zO) | refine zA ?_ | (refine y23 ?_ ?_; all_goals intro h) | fail)
 ·have hc := hS.cap 1000 (by decide)
  have hgt : x > ((1000 : Nat) : Int) := of_decide_eq_true h
  rw [if_pos hgt, decide_eq_true hgt, Bool.or_true] at hc
  exact zU (vs := [_]) ⟨zZ rfl, trivial⟩ H ⟨0, _, rfl, rfl, ⟨by omega, by omega⟩, hc⟩
 ·have hc := hS.cap 1000 (by decide)
  have hgt : ¬ x > ((1000 : Nat) : Int) := of_decide_eq_false h
  rw [if_neg hgt, decide_eq_false hgt, Bool.or_false] at hc
  exact zU (vs := [_]) ⟨zZ rfl, trivial⟩ H ⟨x, _, rfl, rfl, ⟨hx.1, by omega⟩, hc⟩
theorem zB2 {w0 w : World} {G : zI} {br pr : Nat} {s : ByteArray} {p : Rs} (hp : p.pos ≤ s.size) (hs : s.size ≤ 1073741824) (H : St w0 (rdR pr s p :: xr br pr p.bad :: G) w) :
  Calls Tryz.prog 163 [ptr br].toArray w (zf (XR br pr s G p (Value.int .i64) (ze s.size) (fun x => 0 ≤ x ∧ x ≤ s.size)) w0) := by
 refine enter [.tmp 2] Tryz.func163 rfl Tryz.ntmps163 rfl rfl ?_
 repeat' (first | refine y1 sg ?_ | refine y3 ?_ | refine y7 sg H ?_ | (refine y11 sg H ?_; intro w H) | (refine' y33 zBg ?_ ?_; rotate_left 2; exact zEK hp hs H; rintro v N w ⟨x, p1, rfl, rfl, hx, hS⟩ H) | (with_reducible first | apply zB | apply zD | apply zC | apply zF | apply zG | apply zO) | refine zA ?_ | (refine y23 ?_ ?_; all_goals intro h) | fail)
 ·have hc := hS.cap s.size (by omega)
  have hgt : x > (s.size : Int) := of_decide_eq_true h
  rw [if_pos hgt, decide_eq_true hgt, Bool.or_true] at hc
  exact zU (vs := [_]) ⟨zZ rfl, trivial⟩ H ⟨0, _, rfl, rfl, ⟨by omega, by omega⟩, hc⟩
 ·have hc := hS.cap s.size (by omega)
  have hgt : ¬ x > (s.size : Int) := of_decide_eq_false h
  rw [if_neg hgt, decide_eq_false hgt, Bool.or_false] at hc
  exact zU (vs := [_]) ⟨zZ rfl, trivial⟩ H ⟨x, _, rfl, rfl, ⟨hx.1, by omega⟩, hc⟩
theorem zHx {w0 w : World} {G : zI} {br pr : Nat} {s : ByteArray} {p : Rs} (hp : p.pos ≤ s.size) (hs : s.size ≤ 1073741824) (H : St w0 (rdR pr s p :: xr br pr p.bad :: G) w) :
  Calls Tryz.prog 165 [ptr br].toArray w (zf (XR br pr s G p Value.bool zDW (fun _ => True)) w0) := by
 refine enter [.tmp 2] Tryz.func165 rfl Tryz.ntmps165 rfl rfl ?_
 repeat' (first | refine y1 sg ?_ | refine y3 ?_ | refine y7 sg H ?_ | (refine y11 sg H ?_; intro w H) | (refine' y33 zGp ?_ ?_; rotate_left 2; exact zIw hp hs H; rintro v N w ⟨x, p', rfl, rfl, hx, hb, hS⟩ H) | (with_reducible first | apply zB | apply zD | apply zC | apply zF | apply zG) | refine zA ?_ | (refine y23 ?_ ?_; all_goals intro h) | fail)
 ·exact zU (vs := [_]) ⟨zZ rfl, trivial⟩ H ⟨decide (x = 1), ⟨p'.pos, p'.e, p'.to, true⟩, congrArg Value.bool (zHc x), rfl, trivial, hS.flag hb _ (by rw [show decide (1 < x) = true from decide_eq_true (by have := of_decide_eq_true h; omega), Bool.or_true])⟩
 ·exact zU (vs := [_]) ⟨zZ rfl, trivial⟩ H ⟨decide (x = 1), ⟨p'.pos, p'.e, p'.to, p.bad⟩, congrArg Value.bool (zHc x), rfl, trivial, hS.flag hb _ (by rw [show decide (1 < x) = false from decide_eq_false (by have := of_decide_eq_false h; omega), Bool.or_false])⟩
def Rs.liveB (p : Rs) : Bool := p.e == 0 && !p.bad
theorem zFA (p : Rs) : p.liveB = true ↔ p.live := by simp [Rs.liveB, Rs.live]
theorem zAb {w0 : World} {F : zI} {br pr : Nat} {s : ByteArray} {p : Rs} (hF : Mem w0 F) (hm : rdR pr s p ∈ F) (hx : xr br pr p.bad ∈ F) : Calls Tryz.prog 79 [ptr br].toArray w0 (Ret (.bool p.liveB) w0) := by
 obtain ⟨a, e, to_, bad⟩ := p
 cases bad
 all_goals
  refine enter [.tmp 2] Tryz.func79 rfl Tryz.ntmps79 rfl rfl ?_
  have H := zH w0
  repeat' (first | refine y1 sg ?_ | refine y3 ?_ | refine y5 sg ?_ | refine z13 (zb sg rfl rfl (H.memF hF) hx rfl rfl) ?_ | refine z13 (zb sg rfl rfl (H.memF hF) hm rfl rfl) ?_ | refine y13 ?_ | refine y14 ?_ | (with_reducible first | apply zB | apply zD | apply zC | apply zF) | refine zA ?_ | fail)
  exact zQ rfl H.cl (congrArg Value.bool (by simp [Rs.liveB]))
end Go.Proofs.YtggolnppckpdlaaGreat
set_option linter.unusedSimpArgs false
set_option linter.unusedVariables false
namespace Go.Proofs.YtggolnppckpdlaaGreat
open Go Go.Sk Go.RowKit
def zIx (z : Int) (l : List Nat) : Prop := 0 ≤ z ∧ z < 256 ∧ l = beK 1 z.toNat
def accRS := sqP (sqP (zBq) (zFH 24)) zDW
def zKH (x : Ac) (l : List Nat) : Prop := accRS (((), x.name), x.opn) l
def insRS := sqP (sqP (sqP (zBq) (zFH 24)) (ze 4611686018427387904)) zDW
def zKI (x : Ins) (l : List Nat) : Prop := insRS ((((), x.name), x.tick), x.halted) l
def zOt := sqP (sqP (sqP (sqP (zBq) (ze 1000)) (ze 1000)) (ze 4611686018427387904)) (ze 4611686018427387904)
def zHy (x : Row4) (l : List Nat) : Prop := zOt (((((), x.acct), x.asset), (zj x).free), x.held) l ∧ (-4611686018427387904 ≤ x.free ∧ x.free ≤ 4611686018427387904)
def ordRS := sqP (sqP (sqP (sqP (sqP (sqP (zBq) (ze 4611686018427387904)) (ze 1000)) (ze 1000)) zIx) (ze 4611686018427387904)) (ze 4611686018427387904)
def zKJ (x : Odr) (l : List Nat) : Prop := ordRS (((((((), x.id), x.acct), x.inst), x.side), x.price), x.left) l
def bidRS := sqP (sqP (zBq) (ze 1000)) (ze 4611686018427387904)
def zKK (x : Bid) (l : List Nat) : Prop := bidRS (((), x.acct), x.amount) l
def opnRS := sqP (sqP (sqP (sqP (sqP (sqP (zBq) (ze 1000)) (ze 4611686018427387904)) (ze 1000)) zIx) (ze 4611686018427387904)) (ze 4611686018427387904)
def zKL (x : Opn) (l : List Nat) : Prop := opnRS (((((((), x.acct), x.id), x.inst), x.side), x.price), x.left) l
def lotRS := sqP (sqP (sqP (sqP (zBq) (ze 4611686018427387904)) (ze 1000)) (ze 1000)) (ze 4611686018427387904)
def zKM (x : Lt) (l : List Nat) : Prop := lotRS (((((), x.id), x.seller), x.inst), x.qty) l
def posRS := sqP (sqP (sqP (sqP (sqP (sqP (zBq) (ze 1000)) (ze 1000)) (ze 4611686018427387904)) (ze 4611686018427387904)) (ze 4611686018427387904)) (ze 4611686018427387904)
def zKN (x : Psn) (l : List Nat) : Prop := posRS (((((((), x.acct), x.inst), x.bought), x.sold), x.spent), x.got) l
def zOu := sqP (sqP (sqP (sqP (sqP (zBq) (ze 1000)) (ze 4611686018427387904)) zIx) (ze 4611686018427387904)) (ze 4611686018427387904)
def zHz (x : Ln) (l : List Nat) : Prop := zOu ((((((), x.acct), x.seq), x.kind), (zA3 x.delta)), x.bal) l ∧ zAU (zA3 x.delta) = x.delta
theorem accPR {x : Ac} {l : List Nat} (h : zIT x l) : zKH x l := by
 obtain ⟨a0, rfl⟩ := h
 exact ⟨_, _, ⟨_, _, rfl, ⟨a0, rfl⟩, rfl⟩, rfl, by simp [List.append_assoc]⟩
theorem insPR {x : Ins} {l : List Nat} (h : zIU x l) : zKI x l := by
 obtain ⟨a0, ⟨a1, b1⟩, rfl⟩ := h
 exact ⟨_, _, ⟨_, _, ⟨_, _, rfl, ⟨a0, rfl⟩, rfl⟩, ⟨a1, b1, rfl⟩, rfl⟩, rfl, by simp [List.append_assoc]⟩
theorem ordPR {x : Odr} {l : List Nat} (h : zIV x l) : zKJ x l := by
 obtain ⟨⟨a0, b0⟩, ⟨a1, b1⟩, ⟨a2, b2⟩, ⟨a3, b3⟩, ⟨a4, b4⟩, ⟨a5, b5⟩, rfl⟩ := h
 exact ⟨_, _, ⟨_, _, ⟨_, _, ⟨_, _, ⟨_, _, ⟨_, _, rfl, ⟨a0, b0, rfl⟩, rfl⟩, ⟨a1, Int.le_trans b1 (by decide), rfl⟩, rfl⟩, ⟨a2, Int.le_trans b2 (by decide), rfl⟩, rfl⟩, ⟨a3, b3, rfl⟩, rfl⟩, ⟨a4, b4, rfl⟩, rfl⟩, ⟨a5, b5, rfl⟩, by simp [List.append_assoc]⟩
theorem bidPR {x : Bid} {l : List Nat} (h : zIW x l) : zKK x l := by
 obtain ⟨⟨a0, b0⟩, ⟨a1, b1⟩, rfl⟩ := h
 exact ⟨_, _, ⟨_, _, rfl, ⟨a0, Int.le_trans b0 (by decide), rfl⟩, rfl⟩, ⟨a1, b1, rfl⟩, by simp [List.append_assoc]⟩
theorem opnPR {x : Opn} {l : List Nat} (h : zIX x l) : zKL x l := by
 obtain ⟨⟨a0, b0⟩, ⟨a1, b1⟩, ⟨a2, b2⟩, ⟨a3, b3⟩, ⟨a4, b4⟩, ⟨a5, b5⟩, rfl⟩ := h
 exact ⟨_, _, ⟨_, _, ⟨_, _, ⟨_, _, ⟨_, _, ⟨_, _, rfl, ⟨a0, Int.le_trans b0 (by decide), rfl⟩, rfl⟩, ⟨a1, b1, rfl⟩, rfl⟩, ⟨a2, Int.le_trans b2 (by decide), rfl⟩, rfl⟩, ⟨a3, b3, rfl⟩, rfl⟩, ⟨a4, b4, rfl⟩, rfl⟩, ⟨a5, b5, rfl⟩, by simp [List.append_assoc]⟩
theorem lotPR {x : Lt} {l : List Nat} (h : zIY x l) : zKM x l := by
 obtain ⟨⟨a0, b0⟩, ⟨a1, b1⟩, ⟨a2, b2⟩, ⟨a3, b3⟩, rfl⟩ := h
 exact ⟨_, _, ⟨_, _, ⟨_, _, ⟨_, _, rfl, ⟨a0, b0, rfl⟩, rfl⟩, ⟨a1, Int.le_trans b1 (by decide), rfl⟩, rfl⟩, ⟨a2, Int.le_trans b2 (by decide), rfl⟩, rfl⟩, ⟨a3, b3, rfl⟩, by simp [List.append_assoc]⟩
theorem posPR {x : Psn} {l : List Nat} (h : zIZ x l) : zKN x l := by
 obtain ⟨⟨a0, b0⟩, ⟨a1, b1⟩, ⟨a2, b2⟩, ⟨a3, b3⟩, ⟨a4, b4⟩, ⟨a5, b5⟩, rfl⟩ := h
 exact ⟨_, _, ⟨_, _, ⟨_, _, ⟨_, _, ⟨_, _, ⟨_, _, rfl, ⟨a0, Int.le_trans b0 (by decide), rfl⟩, rfl⟩, ⟨a1, Int.le_trans b1 (by decide), rfl⟩, rfl⟩, ⟨a2, b2, rfl⟩, rfl⟩, ⟨a3, b3, rfl⟩, rfl⟩, ⟨a4, b4, rfl⟩, rfl⟩, ⟨a5, b5, rfl⟩, by simp [List.append_assoc]⟩
theorem linPR {x : Ln} {l : List Nat} (h : zIa x l) : zHz x l := by
 obtain ⟨⟨a0, b0⟩, ⟨a1, b1⟩, ⟨a2, b2⟩, ⟨a3, b3⟩, ⟨a4, b4⟩, hu, rfl⟩ := h
 exact ⟨⟨_, _, ⟨_, _, ⟨_, _, ⟨_, _, ⟨_, _, rfl, ⟨a0, Int.le_trans b0 (by decide), rfl⟩, rfl⟩, ⟨a1, b1, rfl⟩, rfl⟩, ⟨a2, b2, rfl⟩, rfl⟩, ⟨a3, b3, rfl⟩, rfl⟩, ⟨a4, b4, rfl⟩, by simp [List.append_assoc]⟩, hu⟩
theorem accR_B {x : Ac} {l : List Nat} (h : zKH x l) : l = zF2 x := by
 obtain ⟨_, _, ⟨_, _, rfl, ⟨a0, rfl⟩, rfl⟩, rfl, rfl⟩ := h
 simp [zF2]
theorem insR_B {x : Ins} {l : List Nat} (h : zKI x l) : l = zFR x := by
 obtain ⟨_, _, ⟨_, _, ⟨_, _, rfl, ⟨a0, rfl⟩, rfl⟩, ⟨a1, b1, rfl⟩, rfl⟩, rfl, rfl⟩ := h
 simp [zFR, zr, List.append_assoc]
theorem ordR_B {x : Odr} {l : List Nat} (h : zKJ x l) : l = zFS x := by
 obtain ⟨_, _, ⟨_, _, ⟨_, _, ⟨_, _, ⟨_, _, ⟨_, _, rfl, ⟨a0, b0, rfl⟩, rfl⟩, ⟨a1, b1, rfl⟩, rfl⟩, ⟨a2, b2, rfl⟩, rfl⟩, ⟨a3, b3, rfl⟩, rfl⟩, ⟨a4, b4, rfl⟩, rfl⟩, ⟨a5, b5, rfl⟩, rfl⟩ := h
 simp [zFS, zr, List.append_assoc, zHE ⟨a3, b3⟩]
theorem bidR_B {x : Bid} {l : List Nat} (h : zKK x l) : l = zF5 x := by
 obtain ⟨_, _, ⟨_, _, rfl, ⟨a0, b0, rfl⟩, rfl⟩, ⟨a1, b1, rfl⟩, rfl⟩ := h
 simp [zF5, zr, List.append_assoc]
theorem opnR_B {x : Opn} {l : List Nat} (h : zKL x l) : l = zFT x := by
 obtain ⟨_, _, ⟨_, _, ⟨_, _, ⟨_, _, ⟨_, _, ⟨_, _, rfl, ⟨a0, b0, rfl⟩, rfl⟩, ⟨a1, b1, rfl⟩, rfl⟩, ⟨a2, b2, rfl⟩, rfl⟩, ⟨a3, b3, rfl⟩, rfl⟩, ⟨a4, b4, rfl⟩, rfl⟩, ⟨a5, b5, rfl⟩, rfl⟩ := h
 simp [zFT, zr, List.append_assoc, zHE ⟨a3, b3⟩]
theorem lotR_B {x : Lt} {l : List Nat} (h : zKM x l) : l = zF3 x := by
 obtain ⟨_, _, ⟨_, _, ⟨_, _, ⟨_, _, rfl, ⟨a0, b0, rfl⟩, rfl⟩, ⟨a1, b1, rfl⟩, rfl⟩, ⟨a2, b2, rfl⟩, rfl⟩, ⟨a3, b3, rfl⟩, rfl⟩ := h
 simp [zF3, zr, List.append_assoc]
theorem posR_B {x : Psn} {l : List Nat} (h : zKN x l) : l = zF4 x := by
 obtain ⟨_, _, ⟨_, _, ⟨_, _, ⟨_, _, ⟨_, _, ⟨_, _, rfl, ⟨a0, b0, rfl⟩, rfl⟩, ⟨a1, b1, rfl⟩, rfl⟩, ⟨a2, b2, rfl⟩, rfl⟩, ⟨a3, b3, rfl⟩, rfl⟩, ⟨a4, b4, rfl⟩, rfl⟩, ⟨a5, b5, rfl⟩, rfl⟩ := h
 simp [zF4, zr, List.append_assoc]
theorem rowPR {x : Row4} {l : List Nat} (h : zGg x l) : zHy x l := by
 obtain ⟨⟨a0, b0⟩, ⟨a1, b1⟩, ⟨a2, b2⟩, ⟨a3, b3⟩, h4, rfl⟩ := h
 obtain ⟨e1, e2, e3⟩ := zDj x
 exact ⟨⟨_, _, ⟨_, _, ⟨_, _, ⟨_, _, rfl, ⟨a0, Int.le_trans b0 (by decide), rfl⟩, rfl⟩, ⟨a1, Int.le_trans b1 (by decide), rfl⟩, rfl⟩, ⟨a2, b2, rfl⟩, rfl⟩, ⟨a3, b3, rfl⟩, by simp [zEd, zr, e1, e2, e3, List.append_assoc]⟩, h4⟩
theorem rowR_B {x : Row4} {l : List Nat} (h : zHy x l) : l = zEd x := by
 obtain ⟨e1, e2, e3⟩ := zDj x
 obtain ⟨⟨_, _, ⟨_, _, ⟨_, _, ⟨_, _, rfl, ⟨a0, b0, rfl⟩, rfl⟩, ⟨a1, b1, rfl⟩, rfl⟩, ⟨a2, b2, rfl⟩, rfl⟩, ⟨a3, b3, rfl⟩, rfl⟩, _⟩ := h
 simp [zEd, zr, e1, e2, e3, List.append_assoc]
theorem linR_B {x : Ln} {l : List Nat} (h0 : x.delta ≠ 0) (h : zHz x l) : l = zFU x := by
 obtain ⟨⟨_, _, ⟨_, _, ⟨_, _, ⟨_, _, ⟨_, _, rfl, ⟨a0, b0, rfl⟩, rfl⟩, ⟨a1, b1, rfl⟩, rfl⟩, ⟨a2, b2, rfl⟩, rfl⟩, ⟨a3, b3, rfl⟩, rfl⟩, ⟨a4, b4, rfl⟩, rfl⟩, hu⟩ := h
 have hd : -4611686018427387904 ≤ x.delta ∧ x.delta ≤ 4611686018427387903 := by
  have a3' : 0 ≤ zA3 x.delta := a3
  have b3' : zA3 x.delta ≤ 4611686018427387904 := b3
  clear a3 b3
  generalize x.delta = z at *
  unfold zA3 at a3' b3'
  by_cases h : z > 0
  ·rw [if_pos h] at b3'; omega
  ·rw [if_neg h, if_neg h0] at b3'; omega
 simp [zFU, zr, zLE h0 hd.1 hd.2, zHE ⟨a2, b2⟩, List.append_assoc]
def aucRS := sqP (sqP (sqP (sqP (sqP (sqP (sqP (sqP (sqP zBq (ze 4611686018427387904)) (ze 1000)) (ze 1000)) zDW) (ze 4611686018427387904)) (ze 4611686018427387904)) (ze 4611686018427387904)) (ze 4611686018427387904)) (zy zKK)
def zKO (x : Auc) (l : List Nat) : Prop := aucRS (zCZ x) l
theorem zAt {α β : Type} {P P' : α → List Nat → Prop} {Q Q' : β → List Nat → Prop} (hP : ∀ x l, P x l → P' x l) (hQ : ∀ x l, Q x l → Q' x l) : ∀ z l, sqP P Q z l → sqP P' Q' z l := fun _ _ ⟨_, _, a, b, c⟩ => ⟨_, _, hP _ _ a, hQ _ _ b, c⟩
theorem zIy {m n : Nat} (h : m ≤ n) : ∀ x l, ze m x l → ze n x l := fun _ _ ⟨a, b, c⟩ => ⟨a, by omega, c⟩
theorem zHL {α : Type} {P P' : α → List Nat → Prop} (hP : ∀ x l, P x l → P' x l) : ∀ (xs : List α) (l : List Nat), zCH P xs l → zCH P' xs l
 | [], _, h => h
 | _ :: _, _, ⟨_, _, a, b, c⟩ => ⟨_, _, hP _ _ a, zHL hP _ _ b, c⟩
theorem zBC {α : Type} {P P' : α → List Nat → Prop} (hP : ∀ x l, P x l → P' x l) : ∀ xs l, zy P xs l → zy P' xs l := fun _ _ ⟨_, a, b⟩ => ⟨_, zHL hP _ _ a, b⟩
theorem zCK {α : Type} {P : α → List Nat → Prop} : ∀ x l, P x l → P x l := fun _ _ h => h
theorem aucPR {x : Auc} {l : List Nat} (h : zGh x l) : zKO x l := zAt (zAt (zAt (zAt (zAt (zAt (zAt (zAt (zAt zCK zCK) (zIy (by decide))) (zIy (by decide))) zCK) zCK) zCK) zCK) zCK) (zBC fun _ _ => bidPR) _ _ h
def staRS : zHs → List Nat → Prop := sqP (sqP (sqP (sqP (sqP (sqP (sqP (sqP (sqP zBq (ze 4611686018427387904)) (ze 4611686018427387904)) (ze 4611686018427387904)) (ze 4611686018427387904)) (zy zKH)) (zy zKI)) (zy zHy)) (zy zKJ)) (zy zKO)
def zIz (x : Sta) (l : List Nat) : Prop := staRS (zDc x) l
theorem staPR {x : Sta} {l : List Nat} (h : zDd x l) : zIz x l := zAt (zAt (zAt (zAt (zAt zCK (zBC fun _ _ => accPR)) (zBC fun _ _ => insPR)) (zBC fun _ _ => rowPR)) (zBC fun _ _ => ordPR)) (zBC fun _ _ => aucPR) _ _ h
def vwsRS : zHt → List Nat → Prop := sqP (sqP (sqP (sqP zBq (zy zKL)) (zy zKM)) (zy zKN)) (zy zHz)
def zI0 (x : Vws) (l : List Nat) : Prop := vwsRS (zJ0 x) l
theorem vwsPR {x : Vws} {l : List Nat} (h : zEI x l) : zI0 x l := zAt (zAt (zAt (zAt zCK (zBC fun _ _ => opnPR)) (zBC fun _ _ => lotPR)) (zBC fun _ _ => posPR)) (zBC fun _ _ => linPR) _ _ h
theorem aucR_B {x : Auc} {l : List Nat} (h : zKO x l) : l = zFV x := by
 obtain ⟨_, l2, ⟨_, _, ⟨_, _, ⟨_, _, ⟨_, _, ⟨_, _, ⟨_, _, ⟨_, _, ⟨_, _, h0, h1, rfl⟩, h2, rfl⟩, h3, rfl⟩, h4, rfl⟩, h5, rfl⟩, h6, rfl⟩, h7, rfl⟩, h8, rfl⟩, h9, rfl⟩ := h
 rw [show l2 = zG1 x.bids from zCo (B := zF5) (fun x _ l => bidR_B) h9]
 simp only [zBq, zDW] at h0 h4
 rw [h0, h1.2.2, h2.2.2, h3.2.2, h4, h5.2.2, h6.2.2, h7.2.2, h8.2.2]
 simp [zFV, zr, zCZ]
theorem staR_B {s : Sta} {l : List Nat} (h : zIz s l) : l = zBL s := by
 obtain ⟨_, _, ⟨_, _, ⟨_, _, ⟨_, _, ⟨_, _, ⟨_, _, ⟨_, _, ⟨_, _, ⟨_, _, h0, h1, rfl⟩, h2, rfl⟩, h3, rfl⟩, h4, rfl⟩, h5, rfl⟩, h6, rfl⟩, h7, rfl⟩, h8, rfl⟩, h9, rfl⟩ := h
 have e5 := zCo (B := zF2) (fun x _ l => accR_B) h5
 have e6 := zCo (B := zFR) (fun x _ l => insR_B) h6
 have e7 := zCo (B := zEd) (fun x _ l => rowR_B) h7
 have e8 := zCo (B := zFS) (fun x _ l => ordR_B) h8
 have e9 := zCo (B := zFV) (fun x _ l => aucR_B) h9
 simp only [zBq] at h0
 rw [h0, h1.2.2, h2.2.2, h3.2.2, h4.2.2, e5, e6, e7, e8, e9]
 simp [zBL, zr, zDc]
 rfl
theorem vwsR_B {v : Vws} (hm : zBP v = true) {l : List Nat} (h : zI0 v l) : l = zBh v := by
 obtain ⟨_, _, ⟨_, _, ⟨_, _, ⟨_, _, h0, h1, rfl⟩, h2, rfl⟩, h3, rfl⟩, h4, rfl⟩ := h
 unfold zBP at hm
 simp only [Bool.and_eq_true] at hm
 have e1 := zCo (B := zFT) (fun x _ l => opnR_B) h1
 have e2 := zCo (B := zF3) (fun x _ l => lotR_B) h2
 have e3 := zCo (B := zF4) (fun x _ l => posR_B) h3
 have e4 := zCo (B := zFU) (fun x hx l => linR_B (by
  obtain ⟨k, hk, rfl⟩ := zCW hx
  exact (zHF hm.2.2 hk).1)) h4
 simp only [zBq] at h0
 rw [h0, e1, e2, e3, e4]
 simp [zBh, zJ0]
 rfl
theorem zMS {y : Vws} {l : List Nat} (h : zI0 y l) : zIs y := by
 obtain ⟨_, _, h0, h4, rfl⟩ := h
 intro k hk
 obtain ⟨m, hm⟩ := zBR h4 _ (zCG hk)
 obtain ⟨⟨_, _, ⟨_, _, ⟨_, _, _, hb, _⟩, _, _⟩, _, _⟩, _⟩ := hm
 exact ⟨hb.1, hb.2.1⟩
theorem ref_rd {B : List Nat} {x : Sta} {y : Vws} (h : ∃ l m, zIz x l ∧ zI0 y m ∧ B = l ++ m) (h1 : zDb x = true) (h2 : zBP y = true) : RdOk B x y := by
 obtain ⟨l, m, hl, hm, rfl⟩ := h
 have := RdOk.of h1 h2 (zMS hm)
 rw [staR_B hl, vwsR_B h2 hm]
 exact this
theorem ListAt.fin {α : Type} {B : List Nat} {P : α → List Nat → Prop} {p p1 pk : Rs} {n most : Nat} {xs : List α} (hP : ∀ x l, P x l → l ≠ []) (hm : B.length ≤ most) (hm2 : most < 1152921504606846976) (h1 : Step B (ze most) p p1 (n : Int)) (h : ListAt B P p1 pk n xs) (hn : ¬ (pk.liveB = true ∧ xs.length < n)) (hle : xs.length ≤ n) : Step B (zy P) p pk xs := by
 by_cases hl : pk.live
 ·exact h.done hP hm hm2 h1 (by have := (zFA pk).2 hl; simp only [this, true_and] at hn; omega)
 ·refine ⟨h.inv, fun hl' => absurd hl' hl, fun hl' ys l r hy hr => ?_⟩
  obtain ⟨l2, a1, rfl⟩ := hy
  have := zCv hP a1
  have hle := congrArg List.length hr
  rw [List.length_drop, List.length_append, List.length_append] at hle
  rw [List.append_assoc] at hr
  obtain ⟨b1, b2, b3⟩ := h1.cpl hl' (ys.length : Int) _ _ ⟨by omega, by omega, by rw [zAv (by omega) (by omega), Int.toNat_natCast]⟩ hr
  exact absurd (h.cpl b1 ys l2 r a1 (by omega) b3).1 hl
theorem zLW {x : Ac} {l : List Nat} (h : zKH x l) : l ≠ [] := by
 obtain ⟨_, l2, _, h2, rfl⟩ := h
 exact zBQ (by rw [show l2 = _ from h2]; simp [zAS])
theorem zLX {x : Ins} {l : List Nat} (h : zKI x l) : l ≠ [] := by
 obtain ⟨_, l2, _, h2, rfl⟩ := h
 exact zBQ (by rw [show l2 = _ from h2]; simp [zAS])
theorem zQf {x : Row4} {l : List Nat} (h : zHy x l) : l ≠ [] := by
 obtain ⟨_, l2, _, h2, rfl⟩ := h.1
 exact zBQ (by rw [h2.2.2]; exact zAj _)
theorem zQg {x : Odr} {l : List Nat} (h : zKJ x l) : l ≠ [] := by
 obtain ⟨_, l2, _, h2, rfl⟩ := h
 exact zBQ (by rw [h2.2.2]; exact zAj _)
theorem zQh {x : Bid} {l : List Nat} (h : zKK x l) : l ≠ [] := by
 obtain ⟨_, l2, _, h2, rfl⟩ := h
 exact zBQ (by rw [h2.2.2]; exact zAj _)
theorem zQi {x : Opn} {l : List Nat} (h : zKL x l) : l ≠ [] := by
 obtain ⟨_, l2, _, h2, rfl⟩ := h
 exact zBQ (by rw [h2.2.2]; exact zAj _)
theorem zQj {x : Lt} {l : List Nat} (h : zKM x l) : l ≠ [] := by
 obtain ⟨_, l2, _, h2, rfl⟩ := h
 exact zBQ (by rw [h2.2.2]; exact zAj _)
theorem zQk {x : Psn} {l : List Nat} (h : zKN x l) : l ≠ [] := by
 obtain ⟨_, l2, _, h2, rfl⟩ := h
 exact zBQ (by rw [h2.2.2]; exact zAj _)
theorem zQl {x : Ln} {l : List Nat} (h : zHz x l) : l ≠ [] := by
 obtain ⟨_, l2, _, h2, rfl⟩ := h.1
 exact zBQ (by rw [h2.2.2]; exact zAj _)
theorem zQm {x : Auc} {l : List Nat} (h : zKO x l) : l ≠ [] := by
 obtain ⟨_, l2, _, ⟨l3, _, rfl⟩, rfl⟩ := h
 exact zBQ (fun k => zAj _ (List.append_eq_nil_iff.1 k).1)
end Go.Proofs.YtggolnppckpdlaaGreat
