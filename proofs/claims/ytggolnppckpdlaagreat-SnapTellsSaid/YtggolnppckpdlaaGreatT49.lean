/- Texts of ours, joined: the steps of the proof, or the claim's theorem. -/
import Derived.Test.YtggolnppckpdlaaGreatT40
import Derived.Test.YtggolnppckpdlaaGreatT41
import Derived.Test.YtggolnppckpdlaaGreatT44
import Derived.Test.YtggolnppckpdlaaGreatT48
set_option linter.unusedSimpArgs false
set_option linter.unusedVariables false
namespace Go.Proofs.YtggolnppckpdlaaGreat
open Go Go.Sk Go.RowKit
attribute [local irreducible] Go.Calls
def zFp : Nat → Nat → List Nat
 | 0, _ => []
 | k + 1, n => zFp k (n / 256) ++ [n % 256]
theorem zJA : ∀ k n, (zFp k n).length = k
 | 0, _ => rfl
 | k + 1, n => by unfold zFp; rw [List.length_append, zJA k]; rfl
theorem fix8 (n : Nat) : zFp 8 n = be8 n := by
 simp only [zFp, be8, Nat.div_div_eq_div_mul, List.nil_append, List.cons_append]
theorem fix4 (n : Nat) : zFp 4 n = be4 n := by
 simp only [zFp, be4, Nat.div_div_eq_div_mul, List.nil_append, List.cons_append]
set_option maxRecDepth 20000 in
theorem zJB : ∀ (k n : Nat), k ≤ 8 → n < 18446744073709551616 → ∀ w0 : World, Calls Tryz.prog 69 [.int .u64 (n : Int), .int .i64 (k : Int)].toArray w0 (Ret (.string (bytesOf (zFp k n))) w0) := by
 intro k
 induction k with
 | zero =>
   intro n _ hn w0
   refine enter [.tmp 4] Tryz.func69 rfl Tryz.ntmps69 rfl rfl ?_
   have H := zE w0
   have d1 : decide (((0 : Nat) : Int) ≤ 0) = true := by decide
   repeat' (first | refine y1 sg ?_ | (with_reducible first | apply zB | apply zD | apply zC | apply zG | apply zP) | refine zA ?_ | refine y21 ?_ | fail)
   exact zO rfl H.cl rfl
 | succ k ih =>
   intro n hk hn w0
   have d1 : decide (((k + 1 : Nat) : Int) ≤ 0) = false := decide_eq_false (by omega)
   have hq : IntKind.u64.wrap ((n : Int).tdiv (Int.ofNat (255 + 1))) = ((n / 256 : Nat) : Int) := by
    rw [show (n : Int).tdiv (Int.ofNat (255 + 1)) = ((n / 256 : Nat) : Int) from rfl]
    exact zEN (by omega) (by omega)
   have hk1 : IntKind.i64.wrap (((k + 1 : Nat) : Int) - 1) = (k : Int) := by
    rw [show ((k + 1 : Nat) : Int) - 1 = (k : Int) by omega]
    exact w64 (by omega) (by omega)
   have e : Value.int .u8 (IntKind.u8.wrap ((n : Int).tmod (Int.ofNat (255 + 1)))) = Value.int .u8 ((n % 256 : Nat) : Int) := by
    rw [show (n : Int).tmod (Int.ofNat (255 + 1)) = ((n % 256 : Nat) : Int) from rfl, w8, Nat.mod_eq_of_lt (by omega)]
   have hI := fun w => ih (n / 256) (by omega) (by omega) w
   rw [← hq, ← hk1] at hI
   have hl := zJA k (n / 256)
   have he : bytesOf (zFp (k + 1) n) = bytesOf (zFp k (n / 256)) ++ bytesOf [n % 256] := by rw [← zBG]; rfl
   rw [he]
   refine enter [.tmp 4] Tryz.func69 rfl Tryz.ntmps69 rfl rfl ?_
   have H := zE w0
   repeat' (first | refine y1 sg ?_ | refine y3 ?_ | ((with_reducible apply OX.buildS sg H); exact rfl; exact rfl; exact rfl; exact rfl; exact rfl; exact rfl; exact rfl; exact rfl; exact rfl; exact rfl; intro b w H _; rw [e] at H) | refine z13 (zBP sg (zD6 (b := b) (x := n % 256) (E := 5)) rfl H.mem rfl rfl rfl rfl rfl rfl rfl rfl) ?_ | (refine' y30 zMs ?_ ?_; rotate_left; exact hI _; intro w hcl; replace H := H.ext hcl; clear hcl) | refine z13 (zAA rfl rfl rfl (by rw [zj, zj]; simp only [List.length_singleton]; omega)) ?_ | (refine zAE zZ 12 ?_ ?_; exact rfl; intro w hcl; replace H := H.ext hcl; clear hcl) | ((with_reducible apply zBc); decide +kernel) | (refine' z8 0 ?_ ?_; rotate_left; first | exact z9 sg) | (refine' z8 1 ?_ ?_; rotate_left; first | exact z9 sg) | (refine' z8 2 ?_ ?_; rotate_left; first | exact z9 sg) | (refine' z8 3 ?_ ?_; rotate_left; first | exact z9 sg) | (refine' z8 5 ?_ ?_; rotate_left; first | exact z9 sg) | (refine' z8 6 ?_ ?_; rotate_left; first | exact z9 sg) | (refine' z8 7 ?_ ?_; rotate_left; first | exact z9 sg) | refine z10 4 ?_ | refine z10 8 ?_ | refine z10 9 ?_ | refine z10 10 ?_ | refine z10 11 ?_ | refine z11 4 8 ?_ ?_ | refine z11 4 9 ?_ ?_ | (with_reducible first | apply zB | apply zD | apply zC | apply zG | apply zH) | refine zA ?_ | refine y22 ?_ | fail)
   all_goals exact zO rfl H.cl rfl
set_option maxHeartbeats 4000000 in
theorem zLU {F : zI} (s : Sta) (p : SPt) (v : Vws) (q : VPt) (hW : SnW s v) (w0 : World) (hF : Mem w0 F) (hs : StaM F s p) (hv : VwM F v q) :
  Calls Tryz.prog 24 [.agg (s.cells p).toArray, .agg (v.cells q).toArray].toArray w0 (Ret (.tuple #[.string (bytesOf (zAj s v).1), .int .i64 (zAj s v).2]) w0) := by
 have hl2 := zGf hW.vb
 have hcE : ((zBJ (zDf s)).toList == (ByteArray.mk #[]).toList) = zC8 s := zE4 (zDf s)
 have hmay := fun w hM => zOo s p hW.sw w hM hs
 have hvm := fun w hM => zQe v q w hM hv
 obtain ⟨c, hc⟩ : ∃ c, zBJ (zDf s) = c := ⟨_, rfl⟩
 rw [hc] at hmay hcE
 have hWs := fun w hM => zOj v q hW.vb w hM hv
 by_cases h1 : (zC8 s && zBU v) = true
 ·obtain ⟨ha, hb⟩ : zC8 s = true ∧ zBU v = true := by simpa using h1
  have hsb := hW.sb ha
  have hl1 := zGe hsb
  have hSs := fun w hM => zOi s p hsb w hM hs
  have hl : (zBs s v).length = (zAz s).length + (zBA v).length := List.length_append
  rw [ha] at hcE
  rw [hb] at hvm
  have ecat : bytesOf (zAz s) ++ bytesOf (zBA v) = bytesOf (zBs s v) := zBm _ _
  have hsz : (bytesOf (zBs s v)).size = (zBs s v).length := zj _
  have hB : zAj s v = if (zBs s v).length > 1048556 then ([], 40) else (zBs s v, 0) := by unfold zAj; rw [if_pos h1]
  rw [hB]
  generalize zBs s v = B at *
  generalize zAz s = SB at *
  generalize zBA v = VB at *
  by_cases h2 : B.length > 1048556
  ·have hd : decide (((bytesOf SB ++ bytesOf VB).size : Int) > 1048556) = true := decide_eq_true (by rw [ecat]; omega)
   rw [if_pos h2]
   refine enter [.tmp 4, .tmp 5] Tryz.func24 rfl Tryz.ntmps24 rfl rfl ?_
   have H := zE w0
   repeat' (first | refine y1 sg ?_ | refine y2 sg ?_ | refine y3 ?_ | refine y4 ?_ | refine y5 sg ?_ | refine y7 sg H ?_ | refine y8 sg H ?_ | (refine y9 H ?_; intro b w H) | (refine' y30 zMq ?_ ?_; rotate_left; exact hmay _ (H.memF hF); intro w hcl; replace H := H.ext hcl; clear hcl) | (refine' y30 zMr ?_ ?_; rotate_left; exact hvm _ (H.memF hF); intro w hcl; replace H := H.ext hcl; clear hcl) | (refine' y31 ent66 ?_ ?_; rotate_left; exact (fun _ hcl => hSs _ ((H.ext hcl).memF hF))) | (refine' y31 ent67 ?_ ?_; rotate_left; exact (fun _ hcl => hWs _ ((H.ext hcl).memF hF))) | ((with_reducible apply zAD); exact rfl; exact rfl; exact zAA rfl rfl rfl (by rw [bsz, bsz]; omega)) | refine y13 ?_ | (refine y17 ?_ ?_; all_goals (intro h; try (exfalso; first | ((rw [hd] at h; cases h); done) | ((simp_all; done); done)))) | (with_reducible first | apply zB | apply zD | apply zC | apply zG | apply zH | apply zP) | (with_reducible apply zb; intro w hcl; replace H := H.ext hcl; clear hcl) | refine zA ?_ | refine y20 zZ ?_ | refine y22 ?_ | (refine y23 ?_ ?_; all_goals (intro h; try (exfalso; first | ((rw [hd] at h; cases h); done) | ((simp_all; done); done)))) | fail)
   all_goals first
    | exact zCC rfl rfl H.cl rfl
    | trace_state
  ·have hd : decide (((bytesOf SB ++ bytesOf VB).size : Int) > 1048556) = false := decide_eq_false (by rw [ecat]; omega)
   rw [if_neg h2]
   refine enter [.tmp 4, .tmp 5] Tryz.func24 rfl Tryz.ntmps24 rfl rfl ?_
   have H := zE w0
   repeat' (first | refine y1 sg ?_ | refine y2 sg ?_ | refine y3 ?_ | refine y4 ?_ | refine y5 sg ?_ | refine y7 sg H ?_ | refine y8 sg H ?_ | (refine y9 H ?_; intro b w H) | (refine' y30 zMq ?_ ?_; rotate_left; exact hmay _ (H.memF hF); intro w hcl; replace H := H.ext hcl; clear hcl) | (refine' y30 zMr ?_ ?_; rotate_left; exact hvm _ (H.memF hF); intro w hcl; replace H := H.ext hcl; clear hcl) | (refine' y31 ent66 ?_ ?_; rotate_left; exact (fun _ hcl => hSs _ ((H.ext hcl).memF hF))) | (refine' y31 ent67 ?_ ?_; rotate_left; exact (fun _ hcl => hWs _ ((H.ext hcl).memF hF))) | ((with_reducible apply zAD); exact rfl; exact rfl; exact zAA rfl rfl rfl (by rw [bsz, bsz]; omega)) | refine y13 ?_ | (refine y17 ?_ ?_; all_goals (intro h; try (exfalso; first | ((rw [hd] at h; cases h); done) | ((simp_all; done); done)))) | (with_reducible first | apply zB | apply zD | apply zC | apply zG | apply zH) | (with_reducible apply zb; intro w hcl; replace H := H.ext hcl; clear hcl) | refine zA ?_ | refine y20 zZ ?_ | refine y22 ?_ | (refine y23 ?_ ?_; all_goals (intro h; try (exfalso; first | ((rw [hd] at h; cases h); done) | ((simp_all; done); done)))) | fail)
   all_goals first
    | exact zCC rfl rfl H.cl (by rw [ecat])
    | trace_state
 ·have e : zAj s v = ([], 4) := by unfold zAj; rw [if_neg h1]
  obtain ⟨ma, hma⟩ : ∃ b, zC8 s = b := ⟨_, rfl⟩
  obtain ⟨mb, hmb⟩ : ∃ b, zBU v = b := ⟨_, rfl⟩
  rw [hma] at hcE h1
  rw [hmb] at hvm h1
  refine enter [.tmp 4, .tmp 5] Tryz.func24 rfl Tryz.ntmps24 rfl rfl ?_
  have H := zE w0
  repeat' (first | refine y1 sg ?_ | refine y3 ?_ | refine y5 sg ?_ | refine y7 sg H ?_ | (refine y9 H ?_; intro b w H) | (refine' y30 zMq ?_ ?_; rotate_left; exact hmay _ (H.memF hF); intro w hcl; replace H := H.ext hcl; clear hcl) | (refine' y30 zMr ?_ ?_; rotate_left; exact hvm _ (H.memF hF); intro w hcl; replace H := H.ext hcl; clear hcl) | refine y13 ?_ | refine y14 ?_ | (refine y17 ?_ ?_; all_goals (intro h; try (exfalso; first | ((subst_vars; simp_all; done); done)))) | (with_reducible first | apply zB | apply zD | apply zC | apply zG | apply zP) | refine zA ?_ | refine y21 ?_ | (refine y23 ?_ ?_; all_goals (intro h; try (exfalso; first | ((subst_vars; simp_all; done); done)))) | fail)
  all_goals first
   | exact zCC rfl rfl H.cl (by rw [e]; rfl)
   | (exfalso; simp_all)
   | trace_state
set_option maxHeartbeats 4000000 in
theorem zQf {F : zI} (seq : Int) (s : Sta) (p : SPt) (v : Vws) (q : VPt) (hW : SnW s v) (w0 : World) (hF : Mem w0 F) (hs : StaM F s p) (hv : VwM F v q) :
  Calls Tryz.prog 25 [.int .i64 seq, .agg (s.cells p).toArray, .agg (v.cells q).toArray].toArray w0 (Ret (.tuple #[.string (bytesOf (zCh seq s v).1), .int .i64 (zCh seq s v).2]) w0) := by
 have hB := fun w hM => zLU s p v q hW w hM hs hv
 by_cases h1 : seq < 0 ∨ seq > 1048576
 ·refine enter [.tmp 6, .tmp 7] Tryz.func25 rfl Tryz.ntmps25 rfl rfl ?_
  have H := zE w0
  repeat' (first | refine y1 sg ?_ | refine y3 ?_ | refine y5 sg ?_ | (refine y9 H ?_; intro b w H) | refine y13 ?_ | refine y14 ?_ | (refine y17 ?_ ?_; all_goals (intro h; try (exfalso; first | ((simp only [decide_eq_true_eq, decide_eq_false_iff_not, gt_iff_lt] at *; omega); done)))) | (with_reducible first | apply zB | apply zD | apply zC | apply zG | apply zP) | refine zA ?_ | refine y21 ?_ | (refine y23 ?_ ?_; all_goals (intro h; try (exfalso; first | ((simp only [decide_eq_true_eq, decide_eq_false_iff_not, gt_iff_lt] at *; omega); done)))) | fail)
  all_goals exact zCC rfl rfl H.cl (by unfold zCh; rw [if_pos h1]; rfl)
 ·obtain ⟨n, rfl⟩ : ∃ n : Nat, seq = (n : Int) := ⟨seq.toNat, by omega⟩
  have hlen := zHT s v
  have hbt := zHU hW.sb hW.vb
  have hF1 : zCh (n : Int) s v = if (zAj s v).2 = 0 then (zA1 (zBV n (zAj s v).1), 0) else ([], (zAj s v).2) := by unfold zCh; rw [if_neg h1, Int.toNat_natCast]
  rw [hF1]
  obtain ⟨⟨B, e⟩, hx⟩ : ∃ x, zAj s v = x := ⟨_, rfl⟩
  rw [hx] at hB hlen hbt ⊢
  simp only at hB hlen hbt ⊢
  have hsz : (bytesOf B).size = B.length := zj B
  by_cases he : e = 0
  ·subst he
   have F8 : ∀ w, Calls Tryz.prog 69 [.int .u64 (n : Int), .int .i64 8].toArray w (Ret (.string (bytesOf (zFp 8 n))) w) := fun w => zJB 8 n (by decide) (by omega) w
   have F4 : ∀ w, Calls Tryz.prog 69 [.int .u64 (B.length : Int), .int .i64 4].toArray w (Ret (.string (bytesOf (zFp 4 B.length))) w) := fun w => zJB 4 B.length (by decide) (by omega) w
   have hw64 : IntKind.u64.wrap (n : Int) = (n : Int) := zEN (by omega) (by omega)
   have hw4 : IntKind.u64.wrap ((bytesOf B).size : Int) = (B.length : Int) := by rw [hsz]; exact zEN (by omega) (by omega)
   rw [fix8, ← hw64] at F8
   rw [fix4, ← hw4] at F4
   have hhb := zFT (n := n) hbt
   have hhl := zFU n B
   have h8 : (be8 n).length = 8 := rfl
   have h4 : (be4 B.length).length = 4 := rfl
   have htot : ((ByteArray.mk #[115, 110, 112, 49] ++ bytesOf (be8 n)) ++ bytesOf (be4 B.length)) ++ bytesOf B = bytesOf (zBV n B) := by
    rw [show ByteArray.mk #[115, 110, 112, 49] = bytesOf [115, 110, 112, 49] from by decide, zBm, zBm, zBm]
    simp only [zBV, List.append_assoc]
   have hS := fun w => zQY (bytesOf (zBV n B)) (by rw [zj]; omega) w
   rw [← htot] at hS
   have hfin : bytesOf (zA1 (zT (((ByteArray.mk #[115, 110, 112, 49] ++ bytesOf (be8 n)) ++ bytesOf (be4 B.length)) ++ bytesOf B))) = bytesOf (zA1 (zBV n B)) := by rw [htot, zu hhb]
   rw [hfin] at hS
   refine enter [.tmp 6, .tmp 7] Tryz.func25 rfl Tryz.ntmps25 rfl rfl ?_
   have H := zE w0
   repeat' (first | refine y1 sg ?_ | refine y3 ?_ | refine y5 sg ?_ | refine y7 sg H ?_ | (refine y9 H ?_; intro b w H) | (refine' y30 zMm ?_ ?_; rotate_left; exact hB _ (H.memF hF); intro w hcl; replace H := H.ext hcl; clear hcl) | (refine' y30 zMs ?_ ?_; rotate_left; exact F8 _; intro w hcl; replace H := H.ext hcl; clear hcl) | (refine' y30 zMs ?_ ?_; rotate_left; exact F4 _; intro w hcl; replace H := H.ext hcl; clear hcl) | (refine' y30 ent68 ?_ ?_; rotate_left; exact hS _; intro w hcl; replace H := H.ext hcl; clear hcl) | refine z13 (zAA rfl rfl rfl (by simp only [ByteArray.size_append, bsz, h8, h4]; rw [show (ByteArray.mk #[115, 110, 112, 49]).size = 4 from rfl]; omega)) ?_ | refine y13 ?_ | (with_reducible first | apply zB | apply zD | apply zC | apply zG | apply zH) | refine zA ?_ | refine y22 ?_ | (refine y23 ?_ ?_; all_goals (intro h; try (exfalso; first | ((simp only [decide_eq_true_eq, decide_eq_false_iff_not, gt_iff_lt] at *; omega); done)))) | fail)
   all_goals first
    | exact zCC rfl rfl H.cl (by rw [if_pos rfl])
    | trace_state
  ·have hd : (e != 0) = true := by simp [he]
   refine enter [.tmp 6, .tmp 7] Tryz.func25 rfl Tryz.ntmps25 rfl rfl ?_
   have H := zE w0
   repeat' (first | refine y1 sg ?_ | refine y3 ?_ | refine y5 sg ?_ | refine y7 sg H ?_ | (refine y9 H ?_; intro b w H) | (refine' y30 zMm ?_ ?_; rotate_left; exact hB _ (H.memF hF); intro w hcl; replace H := H.ext hcl; clear hcl) | refine y13 ?_ | (with_reducible first | apply zB | apply zD | apply zC | apply zG | apply zH | apply zP) | refine zA ?_ | (refine y23 ?_ ?_; all_goals (intro h; try (exfalso; first | ((rw [hd] at h; cases h); done) | ((simp only [decide_eq_true_eq, decide_eq_false_iff_not, gt_iff_lt] at *; omega); done)))) | fail)
   all_goals first
    | exact zCC rfl rfl H.cl (by rw [if_neg he]; rfl)
    | trace_state
end Go.Proofs.YtggolnppckpdlaaGreat
