/- Texts of ours, joined: the steps of the proof, or the claim's theorem. -/
import Derived.Test.YtggolnppckpdlaaGreatT36
set_option linter.unusedSimpArgs false
set_option linter.unusedVariables false
namespace Go.Proofs.YtggolnppckpdlaaGreat
open Go Go.Sk Go.RowKit
attribute [local irreducible] Go.Calls
structure Light (s : Sta) : Prop where
 rw : s.rows.length ≤ 1500
 od : s.orders.length ≤ 1500
 ac : s.accts.length ≤ 1500
 acN : ∀ k, k < s.accts.length → (ac_ s.accts k).name.size ≤ 1500
 ins : s.insts.length ≤ 1500
 insN : ∀ k, k < s.insts.length → (in_ s.insts k).name.size ≤ 1500
 au : s.aucs.length ≤ 1500
 bd : ∀ k, k < s.aucs.length → (s.aucs.getD k default).bids.length ≤ 1500
def zBt (z : Nat → Nat) (n : Nat) : Nat → Nat
 | 0 => n
 | k + 1 => if zBt z n k < 3000 then zBt z n k + 1 + min 3000 (z k) else zBt z n k
theorem zF5 (z : Nat → Nat) (n : Nat) : ∀ k, zBt z n k ≤ n + 6001
 | 0 => by unfold zBt; omega
 | k + 1 => by
   have := zF5 z n k
   unfold zBt
   split <;> omega
theorem zFA {z : Nat → Nat} {n k : Nat} : ∀ {m : Nat}, k ≤ m → ¬ (k < m ∧ zBt z n k < 3000) → zBt z n m = zBt z n k
 | 0, hk, h => by obtain rfl : k = 0 := by omega
                  rfl
 | m + 1, hk, h => by
   by_cases hm : k = m + 1
   ·rw [hm]
   ·have ih := zFA (z := z) (n := n) (k := k) (m := m) (by omega) (by omega)
    rw [zBt, ih, if_neg (by omega)]
theorem zDV (z : Nat → Nat) (n : Nat) : ∀ m, zBt z n m < 3000 → n + m ≤ zBt z n m ∧ ∀ k, k < m → z k ≤ zBt z n m
 | 0, _ => ⟨Nat.le_refl _, fun k hk => absurd hk (Nat.not_lt_zero k)⟩
 | m + 1, h => by
   rw [zBt] at h ⊢
   by_cases h1 : zBt z n m < 3000
   ·rw [if_pos h1] at h ⊢
    obtain ⟨a, b⟩ := zDV z n m h1
    refine ⟨by omega, fun k hk => ?_⟩
    by_cases hkm : k = m
    ·subst hkm; omega
    ·have := b k (by omega); omega
   ·rw [if_neg h1] at h; exact absurd h h1
def szA (s : Sta) (k : Nat) : Nat := (ac_ s.accts k).name.size
def szI (s : Sta) (k : Nat) : Nat := (in_ s.insts k).name.size
def szU (s : Sta) (k : Nat) : Nat := (s.aucs.getD k default).bids.length
def wA (s : Sta) : Nat := zBt (szA s) (s.rows.length + s.orders.length) s.accts.length
def wI (s : Sta) : Nat := zBt (szI s) (wA s) s.insts.length
def wU (s : Sta) : Nat := zBt (szU s) (wI s) s.aucs.length
def zGj (s : Sta) : Int := if (wU s : Int) < 3000 then (wU s : Int) else 3000
theorem zIw {s : Sta} (h : zGj s < 1500) : Light s := by
 have h0 : wU s < 1500 := by unfold zGj at h; split at h <;> omega
 obtain ⟨c1, c2⟩ := zDV (szU s) (wI s) s.aucs.length (show wU s < 3000 by omega)
 have e3 : zBt (szU s) (wI s) s.aucs.length = wU s := rfl
 rw [e3] at c1 c2
 obtain ⟨b1, b2⟩ := zDV (szI s) (wA s) s.insts.length (show wI s < 3000 by omega)
 have e2 : zBt (szI s) (wA s) s.insts.length = wI s := rfl
 rw [e2] at b1 b2
 obtain ⟨a1, a2⟩ := zDV (szA s) (s.rows.length + s.orders.length) s.accts.length (show wA s < 3000 by omega)
 have e1 : zBt (szA s) (s.rows.length + s.orders.length) s.accts.length = wA s := rfl
 rw [e1] at a1 a2
 exact ⟨by omega, by omega, by omega, fun k hk => by have : szA s k ≤ _ := a2 k hk; unfold szA at this; omega, by omega, fun k hk => by have : szI s k ≤ _ := b2 k hk; unfold szI at this; omega, by omega, fun k hk => by have : szU s k ≤ _ := c2 k hk; unfold szU at this; omega⟩
theorem zIB {z : Nat → Nat} {n k m q : Nat} (hm : zBt z n k = m) (hlt : m < 3000) (hz : q = z k) (hqb : q ≤ 140737488355328) : IntKind.i64.wrap (IntKind.i64.wrap ((m : Int) + 1) + if (q : Int) < 3000 then (q : Int) else 3000) = ((zBt z n (k + 1) : Nat) : Int) := by
 rw [zBt, hm, if_pos hlt, ← hz, w64 (x := (m : Int) + 1) (by omega) (by omega)]
 split <;> rw [w64 (by omega) (by omega)] <;> omega
theorem zIC {k n m : Nat} (h : ¬ (k < n ∧ m < 3000)) (b : Prop) (h1 : decide ((k : Int) < (n : Int)) = true) (h2 : decide ((m : Int) < 3000) = true) : b := by
 have := of_decide_eq_true h1; have := of_decide_eq_true h2; omega
set_option maxRecDepth 20000 in
set_option maxHeartbeats 8000000 in
theorem zQO {F : zI} (s : Sta) (p : SPt) (hac : ∀ k, k < s.accts.length → (ac_ s.accts k).name.size ≤ 140737488355328) (hin : ∀ k, k < s.insts.length → (in_ s.insts k).name.size ≤ 140737488355328) (w0 : World) (hF : Mem w0 F) (hs : StaM F s p) :
  Calls Tryz.prog 20 [.agg (s.cells p).toArray].toArray w0 (Ret (.int .i64 (zGj s)) w0) := by
 obtain ⟨ha, hi, hr, ho, hu⟩ := hs
 obtain ⟨hna, hca, ba, offa, csa, Ta, fra, ha⟩ := ha
 obtain ⟨hni, hci, bi, offi, csi, Ti, fri, hi⟩ := hi
 obtain ⟨hnr, hcr, _⟩ := hr
 obtain ⟨hno, hco, _⟩ := ho
 obtain ⟨⟨hnu, hcu, bu, offu, csu, Tu, fru, hu⟩, hub⟩ := hu
 have hw0 : IntKind.i64.wrap ((s.rows.length : Int) + (s.orders.length : Int)) = ((s.rows.length + s.orders.length : Nat) : Int) := by rw [w64 (by omega) (by omega)]; omega
 have hub' : ∀ k, k < s.aucs.length → (s.aucs.getD k default).bids.length ≤ 140737488355328 := fun k hk => (hub k hk).2.1
 have hN : s.rows.length + s.orders.length ≤ 300000000000000 := by omega
 obtain ⟨N, hNe⟩ : ∃ N, s.rows.length + s.orders.length = N := ⟨_, rfl⟩
 rw [hNe] at hw0 hN
 refine enter [.tmp 2] Tryz.func20 rfl Tryz.ntmps20 rfl rfl ?_
 have H := zE w0
 repeat' (first | refine y1 sg ?_ | refine y3 ?_ | refine y7 sg H ?_ | (refine y9 H ?_; intro b w H) | (with_reducible first | apply zB | apply zD | apply zC | apply zF) | refine zA ?_ | fail)
 refine zK [(3, 4), (14, 35)] (fun k : Nat => [(3, .int .i64 ((zBt (szA s) N k : Nat) : Int)), (4, .int .i64 (k : Int))]) (fun k w => St w0 [cb _ (s.cells p) 29] w ∧ k ≤ s.accts.length) (fun k => s.accts.length - k) 0 ⟨congrArg (Value.int .i64) hw0, rfl, trivial⟩ ⟨H, Nat.zero_le _⟩ ?_
 clear H
 rintro k gh w ⟨H, hk⟩
 have hle := zF5 (szA s) N k
 obtain ⟨m, hm⟩ : ∃ m, zBt (szA s) N k = m := ⟨_, rfl⟩
 rw [hm] at hle ⊢
 by_cases hkl : k < s.accts.length ∧ m < 3000
 ·have d1 : decide ((k : Int) < (s.accts.length : Int)) = true := decide_eq_true (by omega)
  have d2 : decide ((m : Int) < 3000) = true := decide_eq_true (by omega)
  repeat' (first | refine y1 sg ?_ | refine y3 ?_ | refine y5 sg ?_ | refine y7 sg H ?_ | (refine y40 sg (ha) ?_ ?_ ?_; (omega); (omega)) | (refine y44 sg (ha) ((H.memF hF)) ?_ ?_; (omega)) | refine y13 ?_ | (refine y17 ?_ ?_; all_goals (intro h; try (exfalso; first | ((rw [d1] at h; cases h); done) | ((rw [d2] at h; cases h); done)))) | (with_reducible first | apply zB | apply zD | apply zC | apply zF | apply zH) | refine zA ?_ | (refine y23 ?_ ?_; all_goals (intro h; try (exfalso; first | ((rw [d1] at h; cases h); done) | ((rw [d2] at h; cases h); done)))) | fail)
  exact zM (k + 1) rfl ⟨congrArg (Value.int .i64) (zIB hm hkl.2 rfl (hac k hkl.1)), zV (by omega), trivial⟩ ⟨H, hkl.1⟩ (by omega)
 have hd := fun b => zIC hkl b
 have e1 : wA s = m := by unfold wA; rw [hNe, zFA hk (by rw [hm]; exact hkl), hm]
 clear hkl hm hk
 repeat' (first | refine y1 sg ?_ | refine y3 ?_ | refine y5 sg ?_ | refine y7 sg H ?_ | refine y13 ?_ | refine y14 ?_ | (refine y17 ?_ ?_; all_goals (intro h; try (exfalso; first | ((exact hd _ ‹_› h); done)))) | (with_reducible first | apply zB | apply zD | apply zC | apply zF | apply zN | apply zW) | refine zA ?_ | refine y24 ?_ | refine y22 ?_ | (refine y23 ?_ ?_; all_goals (intro h; try (exfalso; first | ((exact hd _ ‹_› h); done)))) | fail)
 all_goals
  clear hd
  refine zK [(3, 3), (5, 5), (36, 57)] (fun k : Nat => [(3, .int .i64 ((zBt (szI s) m k : Nat) : Int)), (5, .int .i64 (k : Int))]) (fun k w => St w0 [cb _ (s.cells p) 29] w ∧ k ≤ s.insts.length) (fun k => s.insts.length - k) 0 ⟨rfl, rfl, trivial⟩ ⟨H, Nat.zero_le _⟩ ?_
  clear H
  rintro k gh w ⟨H, hk⟩
  have hle1 := zF5 (szI s) m k
  obtain ⟨m1, hm1⟩ : ∃ m1, zBt (szI s) m k = m1 := ⟨_, rfl⟩
  rw [hm1] at hle1 ⊢
  by_cases hkl : k < s.insts.length ∧ m1 < 3000
  ·have d1 : decide ((k : Int) < (s.insts.length : Int)) = true := decide_eq_true (by omega)
   have d2 : decide ((m1 : Int) < 3000) = true := decide_eq_true (by omega)
   repeat' (first | refine y1 sg ?_ | refine y3 ?_ | refine y5 sg ?_ | refine y7 sg H ?_ | (refine y40 sg (hi) ?_ ?_ ?_; (omega); (omega)) | (refine y44 sg (hi) ((H.memF hF)) ?_ ?_; (omega)) | refine y13 ?_ | (refine y17 ?_ ?_; all_goals (intro h; try (exfalso; first | ((rw [d1] at h; cases h); done) | ((rw [d2] at h; cases h); done)))) | (with_reducible first | apply zB | apply zD | apply zC | apply zF | apply zH) | refine zA ?_ | (refine y23 ?_ ?_; all_goals (intro h; try (exfalso; first | ((rw [d1] at h; cases h); done) | ((rw [d2] at h; cases h); done)))) | fail)
   exact zM (k + 1) rfl ⟨congrArg (Value.int .i64) (zIB hm1 hkl.2 rfl (hin k hkl.1)), zV (by omega), trivial⟩ ⟨H, hkl.1⟩ (by omega)
  have hd := fun b => zIC hkl b
  have e2 : wI s = m1 := by unfold wI; rw [e1, zFA hk (by rw [hm1]; exact hkl), hm1]
  clear hkl hm1 hk
  repeat' (first | refine y1 sg ?_ | refine y3 ?_ | refine y5 sg ?_ | refine y7 sg H ?_ | refine y13 ?_ | refine y14 ?_ | (refine y17 ?_ ?_; all_goals (intro h; try (exfalso; first | ((exact hd _ ‹_› h); done)))) | (with_reducible first | apply zB | apply zD | apply zC | apply zF | apply zN | apply zW) | refine zA ?_ | refine y24 ?_ | refine y22 ?_ | (refine y23 ?_ ?_; all_goals (intro h; try (exfalso; first | ((exact hd _ ‹_› h); done)))) | fail)
  all_goals
   clear hd
   refine zK [(3, 3), (6, 6), (58, 79)] (fun k : Nat => [(3, .int .i64 ((zBt (szU s) m1 k : Nat) : Int)), (6, .int .i64 (k : Int))]) (fun k w => St w0 [cb _ (s.cells p) 29] w ∧ k ≤ s.aucs.length) (fun k => s.aucs.length - k) 0 ⟨rfl, rfl, trivial⟩ ⟨H, Nat.zero_le _⟩ ?_
   clear H
   rintro k gh w ⟨H, hk⟩
   have hle2 := zF5 (szU s) m1 k
   obtain ⟨m2, hm2⟩ : ∃ m2, zBt (szU s) m1 k = m2 := ⟨_, rfl⟩
   rw [hm2] at hle2 ⊢
   by_cases hkl : k < s.aucs.length ∧ m2 < 3000
   ·have d1 : decide ((k : Int) < (s.aucs.length : Int)) = true := decide_eq_true (by omega)
    have d2 : decide ((m2 : Int) < 3000) = true := decide_eq_true (by omega)
    repeat' (first | refine y1 sg ?_ | refine y3 ?_ | refine y5 sg ?_ | refine y7 sg H ?_ | (refine y40 sg (hu) ?_ ?_ ?_; (omega); (omega)) | (refine y44 sg (hu) ((H.memF hF)) ?_ ?_; (omega)) | refine y13 ?_ | (refine y17 ?_ ?_; all_goals (intro h; try (exfalso; first | ((rw [d1] at h; cases h); done) | ((rw [d2] at h; cases h); done)))) | (with_reducible first | apply zB | apply zD | apply zC | apply zF | apply zH) | refine zA ?_ | (refine y23 ?_ ?_; all_goals (intro h; try (exfalso; first | ((rw [d1] at h; cases h); done) | ((rw [d2] at h; cases h); done)))) | fail)
    exact zM (k + 1) rfl ⟨congrArg (Value.int .i64) (zIB hm2 hkl.2 rfl (hub' k hkl.1)), zV (by omega), trivial⟩ ⟨H, hkl.1⟩ (by omega)
   have hd := fun b => zIC hkl b
   have e3 : wU s = m2 := by unfold wU; rw [e2, zFA hk (by rw [hm2]; exact hkl), hm2]
   clear hkl hm2 hk
   repeat' (first | refine y1 sg ?_ | refine y3 ?_ | refine y5 sg ?_ | refine y7 sg H ?_ | refine y13 ?_ | refine y14 ?_ | (refine y17 ?_ ?_; all_goals (intro h; try (exfalso; first | ((exact hd _ ‹_› h); done)))) | (with_reducible first | apply zB | apply zD | apply zC | apply zG | apply zN | apply zW) | refine zA ?_ | refine y24 ?_ | refine y22 ?_ | (refine y23 ?_ ?_; all_goals (intro h; try (exfalso; first | ((exact hd _ ‹_› h); done)))) | fail)
   all_goals
    refine zO rfl H.cl (congrArg (Value.int .i64) ?_)
    unfold zGj
    rw [e3]
    first | rfl | (split <;> omega)
end Go.Proofs.YtggolnppckpdlaaGreat
