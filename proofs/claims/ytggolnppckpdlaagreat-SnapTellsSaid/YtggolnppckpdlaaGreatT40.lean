/- Texts of ours, joined: the steps of the proof, or the claim's theorem. -/
import Derived.Test.YtggolnppckpdlaaGreatT39
set_option linter.unusedSimpArgs false
set_option linter.unusedVariables false
namespace Go.Proofs.YtggolnppckpdlaaGreat
open Go Go.Sk Go.RowKit
attribute [local irreducible] Go.Calls
set_option maxRecDepth 20000 in
set_option maxHeartbeats 16000000 in
theorem zOi {F : zI} (s : Sta) (p : SPt) (hB : StaB s) (w0 : World) (hF : Mem w0 F) (hs : StaM F s p) : Calls Tryz.prog 66 [.agg (s.cells p).toArray].toArray w0 (Ret (.string (bytesOf (zAz s))) w0) := by
 obtain ⟨ha, hi, hr, ho, hu⟩ := hs
 obtain ⟨hna, hca, ba, offa, csa, Ta, fra, ha⟩ := ha
 obtain ⟨hni, hci, bi, offi, csi, Ti, fri, hi⟩ := hi
 obtain ⟨hnr, hcr, br, offr, csr, Tr, frr, hr⟩ := hr
 obtain ⟨hno, hco, bo, offo, cso, To, fro, ho⟩ := ho
 obtain ⟨⟨hnu, hcu, bu, offu, csu, Tu, fru, hu⟩, hub⟩ := hu
 obtain ⟨g1, g1n, g2, g2n, g3, g4, g4n, g5, g5n⟩ := hB
 refine enter [.tmp 2] Tryz.func66 rfl Tryz.ntmps66 rfl rfl ?_
 have H := zE w0
 have n0 := zDz [s.clock, s.fee, s.nextO, s.nextA, (s.accts.length : Int)]
 simp only [List.length_cons, List.length_nil] at n0
 repeat' (first | refine y1 sg ?_ | refine y3 ?_ | refine y7 sg H ?_ | (refine y9 H ?_; intro b w H) | (refine z14 sg H ?_; intro b w H) | (refine' y30 zBe ?_ ?_; rotate_left; exact zA3 [s.clock, s.fee, s.nextO, s.nextA, (s.accts.length : Int)] (by simp) _ H.mem (zAU _ (List.Mem.head _) (by simp)); intro w hcl; replace H := H.ext hcl; clear hcl) | (with_reducible first | apply zB | apply zD | apply zC | apply zF) | refine zA ?_ | fail)
 obtain ⟨X, hX⟩ : ∃ X, zX [s.clock, s.fee, s.nextO, s.nextA, (s.accts.length : Int)] = X := ⟨_, rfl⟩
 rw [hX] at n0 ⊢
 refine zK [(3, 4), (26, 49)] (fun k : Nat => [(4, .int .i64 (k : Int)), (3, .string (bytesOf (X ++ (List.range k).flatMap fun k => zDm (ac_ s.accts k))))]) (fun k w => St w0 [cb _ (s.cells p) 29] w ∧ k ≤ s.accts.length) (fun k => s.accts.length - k) 0 ⟨rfl, congrArg (fun l => Value.string (bytesOf l)) (List.append_nil X).symm, trivial⟩ ⟨H.sub (List.sublist_cons_self _ _), Nat.zero_le _⟩ ?_
 clear H
 rintro k gh w ⟨H, hk⟩
 have nl := zi (ob := fun k => zDm (ac_ s.accts k)) (C := 1011) (n := k) fun j hj => zEs (g1n j (by omega))
 by_cases hlt : k < s.accts.length
 ·have d1 : decide ((k : Int) < (s.accts.length : Int)) = true := decide_eq_true (by omega)
  have hnm := g1n k hlt
  have h10 := zY (n := (ac_ s.accts k).name.size) (by omega)
  have he : bytesOf (X ++ (List.range (k + 1)).flatMap fun k => zDm (ac_ s.accts k)) = (bytesOf (X ++ (List.range k).flatMap fun k => zDm (ac_ s.accts k)) ++ bytesOf (short (ac_ s.accts k).name.size ++ zT (ac_ s.accts k).name)) ++ bytesOf (zk (ac_ s.accts k).opn) := by
   rw [zBm, zBm, zBH]; simp only [zDm, List.append_assoc]
  have hl0 : (X ++ (List.range k).flatMap fun k => zDm (ac_ s.accts k)).length = X.length + ((List.range k).flatMap fun k => zDm (ac_ s.accts k)).length := List.length_append
  have hsl := zU (ac_ s.accts k).name
  generalize hY : (X ++ (List.range k).flatMap fun k => zDm (ac_ s.accts k)) = Y at he hl0 ⊢
  repeat' (first | refine y1 sg ?_ | refine y2 sg ?_ | refine y3 ?_ | refine y4 ?_ | refine y7 sg H ?_ | refine y8 sg H ?_ | (refine y41 sg (ha) ?_ ?_ ?_; (omega); (omega)) | (refine y45 sg (ha) ((H.memF hF)) ?_ ?_; (omega)) | (refine' y31 zMv ?_ ?_; rotate_left; exact (fun _ hcl => zLR (ac_ s.accts k).name (by omega) _)) | (refine' y31 zJL ?_ ?_; rotate_left; exact (fun _ hcl => zIG (ac_ s.accts k).opn _)) | ((with_reducible apply zAD); exact rfl; exact rfl; exact zAA rfl rfl rfl (by simp only [ByteArray.size_append, bsz, List.length_append, zk, List.length_singleton]; omega)) | (with_reducible first | apply zB | apply zD | apply zC | apply zF | apply zH) | (with_reducible apply zb; intro w hcl; replace H := H.ext hcl; clear hcl) | refine zA ?_ | refine y20 zZ ?_ | (refine y23 ?_ ?_; all_goals (intro h; try (exfalso; first | ((rw [d1] at h; cases h); done)))) | fail)
  exact zM (k + 1) rfl ⟨zV (by omega), congrArg Value.string he.symm, trivial⟩ ⟨H, hlt⟩ (by omega)
 obtain rfl : k = s.accts.length := by omega
 have d1 : decide ((s.accts.length : Int) < (s.accts.length : Int)) = false := decide_eq_false (by omega)
 obtain ⟨X1, hX1⟩ : ∃ X1, (X ++ (List.range s.accts.length).flatMap fun k => zDm (ac_ s.accts k)) = X1 := ⟨_, rfl⟩
 have nX1 : X1.length ≤ 20000000 := by rw [← hX1, List.length_append]; omega
 rw [hX1]
 clear nl
 have h2 := zY (n := s.insts.length) (by omega)
 have e2 : bytesOf X1 ++ bytesOf (short (zAX (s.insts.length : Int))) = bytesOf (X1 ++ short s.insts.length) := by rw [zBW _ (by omega), zBm]
 repeat' (first | refine y1 sg ?_ | refine y3 ?_ | refine y7 sg H ?_ | (refine' y30 zCw ?_ ?_; rotate_left; exact zC4 (s.insts.length : Int) _; intro w hcl; replace H := H.ext hcl; clear hcl) | refine z13 (zAA rfl rfl rfl (by rw [bsz, bsz, zBW _ (by omega)]; omega)) ?_ | (with_reducible first | apply zB | apply zD | apply zC | apply zF | apply zN | apply zW) | refine zA ?_ | refine y24 ?_ | (refine y23 ?_ ?_; all_goals (intro h; try (exfalso; first | ((rw [d1] at h; cases h); done)))) | fail)
 rw [e2]
 obtain ⟨X2, hX2⟩ : ∃ X2, X1 ++ short s.insts.length = X2 := ⟨_, rfl⟩
 have nX2 : X2.length ≤ 20000010 := by rw [← hX2, List.length_append]; omega
 rw [hX2]
 clear hlt d1 hk e2 n0
 refine zK [(3, 3), (5, 5), (56, 87)] (fun k : Nat => [(5, .int .i64 (k : Int)), (3, .string (bytesOf (X2 ++ (List.range k).flatMap fun k => zDZ (in_ s.insts k))))]) (fun k w => St w0 [cb _ (s.cells p) 29] w ∧ k ≤ s.insts.length) (fun k => s.insts.length - k) 0 ⟨rfl, congrArg (fun l => Value.string (bytesOf l)) (List.append_nil X2).symm, trivial⟩ ⟨H, Nat.zero_le _⟩ ?_
 clear H
 rintro k gh w ⟨H, hk⟩
 have nl := zi (ob := fun k => zDZ (in_ s.insts k)) (C := 1021) (n := k) fun j hj => zEt (g2n j (by omega))
 by_cases hlt : k < s.insts.length
 ·have d1 : decide ((k : Int) < (s.insts.length : Int)) = true := decide_eq_true (by omega)
  have hnm := g2n k hlt
  have h10 := zY (n := (in_ s.insts k).name.size) (by omega)
  have h11 := zY (zEr (in_ s.insts k).tick)
  have he : bytesOf (X2 ++ (List.range (k + 1)).flatMap fun k => zDZ (in_ s.insts k)) = ((bytesOf (X2 ++ (List.range k).flatMap fun k => zDZ (in_ s.insts k)) ++ bytesOf (short (in_ s.insts k).name.size ++ zT (in_ s.insts k).name)) ++ bytesOf (short (zAX (in_ s.insts k).tick))) ++ bytesOf (zk (in_ s.insts k).halted) := by
   rw [zBm, zBm, zBm, zBH]; simp [zDZ, zX, List.append_assoc]
  have hl0 : (X2 ++ (List.range k).flatMap fun k => zDZ (in_ s.insts k)).length = X2.length + ((List.range k).flatMap fun k => zDZ (in_ s.insts k)).length := List.length_append
  have hsl := zU (in_ s.insts k).name
  generalize hY : (X2 ++ (List.range k).flatMap fun k => zDZ (in_ s.insts k)) = Y at he hl0 ⊢
  repeat' (first | refine y1 sg ?_ | refine y2 sg ?_ | refine y3 ?_ | refine y4 ?_ | refine y7 sg H ?_ | refine y8 sg H ?_ | (refine y41 sg (hi) ?_ ?_ ?_; (omega); (omega)) | (refine y45 sg (hi) ((H.memF hF)) ?_ ?_; (omega)) | (refine' y31 zMv ?_ ?_; rotate_left; exact (fun _ hcl => zLR (in_ s.insts k).name (by omega) _)) | (refine' y31 zCw ?_ ?_; rotate_left; exact (fun _ hcl => zC4 (in_ s.insts k).tick _)) | (refine' y31 zJL ?_ ?_; rotate_left; exact (fun _ hcl => zIG (in_ s.insts k).halted _)) | ((with_reducible apply zAD); exact rfl; exact rfl; exact zAA rfl rfl rfl (by simp only [ByteArray.size_append, bsz, List.length_append, zk, List.length_singleton]; omega)) | (with_reducible first | apply zB | apply zD | apply zC | apply zF | apply zH) | (with_reducible apply zb; intro w hcl; replace H := H.ext hcl; clear hcl) | refine zA ?_ | refine y20 zZ ?_ | (refine y23 ?_ ?_; all_goals (intro h; try (exfalso; first | ((rw [d1] at h; cases h); done)))) | fail)
  exact zM (k + 1) rfl ⟨zV (by omega), congrArg Value.string he.symm, trivial⟩ ⟨H, hlt⟩ (by omega)
 obtain rfl : k = s.insts.length := by omega
 have d1 : decide ((s.insts.length : Int) < (s.insts.length : Int)) = false := decide_eq_false (by omega)
 obtain ⟨X3, hX3⟩ : ∃ X3, (X2 ++ (List.range s.insts.length).flatMap fun k => zDZ (in_ s.insts k)) = X3 := ⟨_, rfl⟩
 have nX3 : X3.length ≤ 40000000 := by rw [← hX3, List.length_append]; omega
 rw [hX3]
 clear nl
 have h2 := zY (n := s.rows.length) (by omega)
 have e2 : bytesOf X3 ++ bytesOf (short (zAX (s.rows.length : Int))) = bytesOf (X3 ++ short s.rows.length) := by rw [zBW _ (by omega), zBm]
 repeat' (first | refine y1 sg ?_ | refine y3 ?_ | refine y7 sg H ?_ | (refine' y30 zCw ?_ ?_; rotate_left; exact zC4 (s.rows.length : Int) _; intro w hcl; replace H := H.ext hcl; clear hcl) | refine z13 (zAA rfl rfl rfl (by rw [bsz, bsz, zBW _ (by omega)]; omega)) ?_ | (with_reducible first | apply zB | apply zD | apply zC | apply zF | apply zN | apply zW) | refine zA ?_ | refine y24 ?_ | (refine y23 ?_ ?_; all_goals (intro h; try (exfalso; first | ((rw [d1] at h; cases h); done)))) | fail)
 rw [e2]
 obtain ⟨X4, hX4⟩ : ∃ X4, X3 ++ short s.rows.length = X4 := ⟨_, rfl⟩
 have nX4 : X4.length ≤ 40000010 := by rw [← hX4, List.length_append]; omega
 rw [hX4]
 clear hlt d1 hk e2
 refine zK [(3, 3), (6, 7), (94, 124)] (fun k : Nat => [(6, .int .i64 (k : Int)), (3, .string (bytesOf (X4 ++ (List.range k).flatMap fun k => zCa (rw_ s.rows k))))]) (fun k w => St w0 [cb _ (s.cells p) 29] w ∧ k ≤ s.rows.length) (fun k => s.rows.length - k) 0 ⟨rfl, congrArg (fun l => Value.string (bytesOf l)) (List.append_nil X4).symm, trivial⟩ ⟨H, Nat.zero_le _⟩ ?_
 clear H
 rintro k gh w ⟨H, hk⟩
 have nl := zi (ob := fun k => zCa (rw_ s.rows k)) (C := 40) (n := k) fun j hj => zDp _
 by_cases hlt : k < s.rows.length
 ·have d1 : decide ((k : Int) < (s.rows.length : Int)) = true := decide_eq_true (by omega)
  have h11 := zDp (rw_ s.rows k)
  have he : bytesOf (X4 ++ (List.range (k + 1)).flatMap fun k => zCa (rw_ s.rows k)) = bytesOf (X4 ++ (List.range k).flatMap fun k => zCa (rw_ s.rows k)) ++ bytesOf (zCa (rw_ s.rows k)) := by
   rw [zBm, zBH]; simp only [List.append_assoc]
  have hl0 : (X4 ++ (List.range k).flatMap fun k => zCa (rw_ s.rows k)).length = X4.length + ((List.range k).flatMap fun k => zCa (rw_ s.rows k)).length := List.length_append
  generalize hY : (X4 ++ (List.range k).flatMap fun k => zCa (rw_ s.rows k)) = Y at he hl0 ⊢
  by_cases h0 : (rw_ s.rows k).acct = 0
  ·have d2 : ((rw_ s.rows k).acct == 0) = true := by simp [h0]
   have hb : zCa (rw_ s.rows k) = zX [(rw_ s.rows k).acct, (rw_ s.rows k).asset, IntKind.i64.wrap (0 - (rw_ s.rows k).free), (rw_ s.rows k).held] := by unfold zCa zx; rw [if_pos h0]
   rw [hb] at he h11
   repeat' (first | refine y1 sg ?_ | refine y3 ?_ | refine y7 sg H ?_ | (refine y10 sg H ?_; intro b w H) | (refine y11 sg H ?_; intro w H) | (refine y40 sg (hr) ?_ ?_ ?_; (omega); (omega)) | (refine y42 sg (hr) ((H.memF hF)) ?_ ?_; (omega)) | (refine z14 sg H ?_; intro b w H) | (refine' y30 zBe ?_ ?_; rotate_left; exact zA3 [(rw_ s.rows k).acct, (rw_ s.rows k).asset, IntKind.i64.wrap (0 - (rw_ s.rows k).free), (rw_ s.rows k).held] (by simp) _ H.mem (zAU _ (List.Mem.head _) (by simp)); intro w hcl; replace H := H.ext hcl; clear hcl) | refine z13 (zAA rfl rfl rfl (by rw [bsz, bsz]; omega)) ?_ | (with_reducible first | apply zB | apply zD | apply zC | apply zF | apply zH) | refine zA ?_ | (refine y23 ?_ ?_; all_goals (intro h; try (exfalso; first | ((rw [d1] at h; cases h); done) | ((rw [d2] at h; cases h); done)))) | fail)
   all_goals first
    | exact zM (k + 1) rfl ⟨zV (by omega), congrArg Value.string he.symm, trivial⟩ ⟨H.sub (List.Sublist.cons _ (List.Sublist.cons _ (List.Sublist.refl _))), hlt⟩ (by omega)
    | trace_state
  ·have d2 : ((rw_ s.rows k).acct == 0) = false := by simp [h0]
   have hb : zCa (rw_ s.rows k) = zX [(rw_ s.rows k).acct, (rw_ s.rows k).asset, (rw_ s.rows k).free, (rw_ s.rows k).held] := by unfold zCa zx; rw [if_neg h0]
   rw [hb] at he h11
   repeat' (first | refine y1 sg ?_ | refine y3 ?_ | refine y7 sg H ?_ | (refine y10 sg H ?_; intro b w H) | (refine y11 sg H ?_; intro w H) | (refine y40 sg (hr) ?_ ?_ ?_; (omega); (omega)) | (refine y42 sg (hr) ((H.memF hF)) ?_ ?_; (omega)) | (refine z14 sg H ?_; intro b w H) | (refine' y30 zBe ?_ ?_; rotate_left; exact zA3 [(rw_ s.rows k).acct, (rw_ s.rows k).asset, (rw_ s.rows k).free, (rw_ s.rows k).held] (by simp) _ H.mem (zAU _ (List.Mem.head _) (by simp)); intro w hcl; replace H := H.ext hcl; clear hcl) | refine z13 (zAA rfl rfl rfl (by rw [bsz, bsz]; omega)) ?_ | (with_reducible first | apply zB | apply zD | apply zC | apply zF | apply zH) | refine zA ?_ | (refine y23 ?_ ?_; all_goals (intro h; try (exfalso; first | ((rw [d1] at h; cases h); done) | ((rw [d2] at h; cases h); done)))) | fail)
   all_goals first
    | exact zM (k + 1) rfl ⟨zV (by omega), congrArg Value.string he.symm, trivial⟩ ⟨H.sub (List.Sublist.cons _ (List.Sublist.cons _ (List.Sublist.refl _))), hlt⟩ (by omega)
    | trace_state
 obtain rfl : k = s.rows.length := by omega
 have d1 : decide ((s.rows.length : Int) < (s.rows.length : Int)) = false := decide_eq_false (by omega)
 obtain ⟨X5, hX5⟩ : ∃ X5, (X4 ++ (List.range s.rows.length).flatMap fun k => zCa (rw_ s.rows k)) = X5 := ⟨_, rfl⟩
 have nX5 : X5.length ≤ 60000000 := by rw [← hX5, List.length_append]; omega
 rw [hX5]
 clear nl
 have h2 := zY (n := s.orders.length) (by omega)
 have e2 : bytesOf X5 ++ bytesOf (short (zAX (s.orders.length : Int))) = bytesOf (X5 ++ short s.orders.length) := by rw [zBW _ (by omega), zBm]
 repeat' (first | refine y1 sg ?_ | refine y3 ?_ | refine y7 sg H ?_ | (refine' y30 zCw ?_ ?_; rotate_left; exact zC4 (s.orders.length : Int) _; intro w hcl; replace H := H.ext hcl; clear hcl) | refine z13 (zAA rfl rfl rfl (by rw [bsz, bsz, zBW _ (by omega)]; omega)) ?_ | (with_reducible first | apply zB | apply zD | apply zC | apply zF | apply zN | apply zW) | refine zA ?_ | refine y24 ?_ | (refine y23 ?_ ?_; all_goals (intro h; try (exfalso; first | ((rw [d1] at h; cases h); done)))) | fail)
 rw [e2]
 obtain ⟨X6, hX6⟩ : ∃ X6, X5 ++ short s.orders.length = X6 := ⟨_, rfl⟩
 have nX6 : X6.length ≤ 60000010 := by rw [← hX6, List.length_append]; omega
 rw [hX6]
 clear hlt d1 hk e2
 refine zK [(3, 3), (8, 9), (131, 164)] (fun k : Nat => [(8, .int .i64 (k : Int)), (3, .string (bytesOf (X6 ++ (List.range k).flatMap fun k => zDa (od_ s.orders k))))]) (fun k w => St w0 [cb _ (s.cells p) 29] w ∧ k ≤ s.orders.length) (fun k => s.orders.length - k) 0 ⟨rfl, congrArg (fun l => Value.string (bytesOf l)) (List.append_nil X6).symm, trivial⟩ ⟨H, Nat.zero_le _⟩ ?_
 clear H
 rintro k gh w ⟨H, hk⟩
 have nl := zi (ob := fun k => zDa (od_ s.orders k)) (C := 51) (n := k) fun j hj => zEu _
 by_cases hlt : k < s.orders.length
 ·have d1 : decide ((k : Int) < (s.orders.length : Int)) = true := decide_eq_true (by omega)
  obtain ⟨sd, hsd⟩ : ∃ m : Nat, (od_ s.orders k).side = (m : Int) := ⟨(od_ s.orders k).side.toNat, by have := g4n k hlt; omega⟩
  have h11 := nb [(od_ s.orders k).id, (od_ s.orders k).acct, (od_ s.orders k).inst]
  have h12 := nb [(od_ s.orders k).price, (od_ s.orders k).left]
  simp only [List.length_cons, List.length_nil] at h11 h12
  have he : bytesOf (X6 ++ (List.range (k + 1)).flatMap fun k => zDa (od_ s.orders k)) = ((bytesOf (X6 ++ (List.range k).flatMap fun k => zDa (od_ s.orders k)) ++ bytesOf (zX [(od_ s.orders k).id, (od_ s.orders k).acct, (od_ s.orders k).inst])) ++ bytesOf [sd]) ++ bytesOf (zX [(od_ s.orders k).price, (od_ s.orders k).left]) := by
   rw [zBm, zBm, zBm, zBH]; simp only [zDa, hsd, Int.toNat_natCast, List.append_assoc]
  have hl0 : (X6 ++ (List.range k).flatMap fun k => zDa (od_ s.orders k)).length = X6.length + ((List.range k).flatMap fun k => zDa (od_ s.orders k)).length := List.length_append
  generalize hY : (X6 ++ (List.range k).flatMap fun k => zDa (od_ s.orders k)) = Y at he hl0 ⊢
  have hsS : ∀ b, SlB [cb b [Value.int .u8 (od_ s.orders k).side] 5] 1 (some ⟨b, 0, none⟩) 1 b 0 [Value.int .u8 (od_ s.orders k).side] 5 (0, 0) (u8c [sd]) := fun b => by rw [hsd]; exact zD6
  repeat' (first | refine y1 sg ?_ | refine y3 ?_ | refine y7 sg H ?_ | (with_reducible first | apply zB | apply zD | apply zC) | refine zA ?_ | fail)
  refine zL rfl (fun h => ?_) (fun h => absurd d1 (by rw [h]; decide))
  clear h
  repeat' (first | refine y1 sg ?_ | refine y3 ?_ | refine y7 sg H ?_ | (refine y10 sg H ?_; intro b w H) | (refine y11 sg H ?_; intro w H) | (refine y40 sg (ho) ?_ ?_ ?_; (omega); (omega)) | (refine y42 sg (ho) ((H.memF hF)) ?_ ?_; (omega)) | (refine zBD zZ 23 H.mem ?_ ?_; exact rfl; intro w hcl; replace H := H.ext hcl; clear hcl) | (refine' z1 0 (z5 H) ?_ ?_; rotate_left; first | exact z4 sg | exact (fun w hM => zJ sg rfl rfl hM (by repeat (first | exact List.Mem.head _ | refine List.Mem.tail _ ?_)) rfl rfl)) | (refine' z1 1 (z5 H) ?_ ?_; rotate_left; first | exact z4 sg | exact (fun w hM => zJ sg rfl rfl hM (by repeat (first | exact List.Mem.head _ | refine List.Mem.tail _ ?_)) rfl rfl)) | (refine' z1 2 (z5 H) ?_ ?_; rotate_left; first | exact z4 sg | exact (fun w hM => zJ sg rfl rfl hM (by repeat (first | exact List.Mem.head _ | refine List.Mem.tail _ ?_)) rfl rfl)) | (refine' z1 3 (z5 H) ?_ ?_; rotate_left; first | exact z4 sg | exact (fun w hM => zJ sg rfl rfl hM (by repeat (first | exact List.Mem.head _ | refine List.Mem.tail _ ?_)) rfl rfl)) | (refine' z1 4 (z5 H) ?_ ?_; rotate_left; first | exact z4 sg | exact (fun w hM => zJ sg rfl rfl hM (by repeat (first | exact List.Mem.head _ | refine List.Mem.tail _ ?_)) rfl rfl)) | (refine' z1 5 (z5 H) ?_ ?_; rotate_left; first | exact z4 sg | exact (fun w hM => zJ sg rfl rfl hM (by repeat (first | exact List.Mem.head _ | refine List.Mem.tail _ ?_)) rfl rfl)) | (refine' z1 6 (z5 H) ?_ ?_; rotate_left; first | exact z4 sg | exact (fun w hM => zJ sg rfl rfl hM (by repeat (first | exact List.Mem.head _ | refine List.Mem.tail _ ?_)) rfl rfl)) | (refine' z1 10 (z5 H) ?_ ?_; rotate_left; first | exact z4 sg | exact (fun w hM => zJ sg rfl rfl hM (by repeat (first | exact List.Mem.head _ | refine List.Mem.tail _ ?_)) rfl rfl)) | (refine' z1 11 (z5 H) ?_ ?_; rotate_left; first | exact z4 sg | exact (fun w hM => zJ sg rfl rfl hM (by repeat (first | exact List.Mem.head _ | refine List.Mem.tail _ ?_)) rfl rfl)) | (refine' z1 15 (z5 H) ?_ ?_; rotate_left; first | exact z4 sg | exact (fun w hM => zJ sg rfl rfl hM (by repeat (first | exact List.Mem.head _ | refine List.Mem.tail _ ?_)) rfl rfl)) | (refine' z1 16 (z5 H) ?_ ?_; rotate_left; first | exact z4 sg | exact (fun w hM => zJ sg rfl rfl hM (by repeat (first | exact List.Mem.head _ | refine List.Mem.tail _ ?_)) rfl rfl)) | (refine' z1 17 (z5 H) ?_ ?_; rotate_left; first | exact z4 sg | exact (fun w hM => zJ sg rfl rfl hM (by repeat (first | exact List.Mem.head _ | refine List.Mem.tail _ ?_)) rfl rfl)) | (refine' z1 18 (z5 H) ?_ ?_; rotate_left; first | exact z4 sg | exact (fun w hM => zJ sg rfl rfl hM (by repeat (first | exact List.Mem.head _ | refine List.Mem.tail _ ?_)) rfl rfl)) | (with_reducible first | apply zB | apply zD | apply zC | apply zF | apply zH) | refine zA ?_ | fail)
  refine RH.know [(3, 3), (150, 152), (155, 157), (162, 164)] [⟨7, 150, [], .box 3 [.int .i64 (od_ s.orders k).id, .int .i64 (od_ s.orders k).acct, .int .i64 (od_ s.orders k).inst] 2⟩, ⟨8, 151, [150], .val (.string (bytesOf (zX [(od_ s.orders k).id, (od_ s.orders k).acct, (od_ s.orders k).inst])))⟩, ⟨9, 152, [151], .val (.string (bytesOf Y ++ bytesOf (zX [(od_ s.orders k).id, (od_ s.orders k).acct, (od_ s.orders k).inst])))⟩, ⟨12, 155, [], .box 1 [.int .u8 (od_ s.orders k).side] 5⟩, ⟨13, 156, [155], .val (.string (bytesOf [sd]))⟩, ⟨14, 157, [152, 156], .val (.string ((bytesOf Y ++ bytesOf (zX [(od_ s.orders k).id, (od_ s.orders k).acct, (od_ s.orders k).inst])) ++ bytesOf [sd]))⟩, ⟨19, 162, [], .box 2 [.int .i64 (od_ s.orders k).price, .int .i64 (od_ s.orders k).left] 2⟩, ⟨20, 163, [162], .val (.string (bytesOf (zX [(od_ s.orders k).price, (od_ s.orders k).left])))⟩, ⟨21, 164, [157, 163], .val (.string (((bytesOf Y ++ bytesOf (zX [(od_ s.orders k).id, (od_ s.orders k).acct, (od_ s.orders k).inst])) ++ bytesOf [sd]) ++ bytesOf (zX [(od_ s.orders k).price, (od_ s.orders k).left])))⟩, ⟨22, 3, [164], .val (.string (((bytesOf Y ++ bytesOf (zX [(od_ s.orders k).id, (od_ s.orders k).acct, (od_ s.orders k).inst])) ++ bytesOf [sd]) ++ bytesOf (zX [(od_ s.orders k).price, (od_ s.orders k).left])))⟩] [⟨7, 150, [], .val undef⟩, ⟨8, 151, [150], .val undef⟩, ⟨9, 152, [151], .val undef⟩, ⟨12, 155, [], .val undef⟩, ⟨13, 156, [155], .val undef⟩, ⟨14, 157, [152, 156], .val undef⟩, ⟨19, 162, [], .val undef⟩, ⟨20, 163, [162], .val undef⟩, ⟨21, 164, [157, 163], .val undef⟩, ⟨22, 3, [164], .val undef⟩] [3] H.mem rfl (by decide +kernel) (KSt.cons rfl ?_ (KSt.cons rfl ?_ (KSt.cons rfl ?_ (KSt.cons rfl ?_ (KSt.cons rfl ?_ (KSt.cons rfl ?_ (KSt.cons rfl ?_ (KSt.cons rfl ?_ (KSt.cons rfl ?_ (KSt.cons rfl ?_ (KSt.nil))))))))))) ?_
  ·intro g w1 hcl1 hM0
   dsimp only [Know]
   have H := zE w1
   repeat' (first | refine y3 ?_ | (refine z14 sg H ?_; intro b w H) | (with_reducible first | apply zB | apply zD) | fail)
   exact ⟨_, rfl, H.cl, ⟨_, rfl, H.mem⟩⟩
  ·intro g w1 hcl1 hM0
   dsimp only [Know]
   rintro _ ⟨b1, rfl, hb1⟩
   have H := zE w1
   repeat' (first | refine y3 ?_ | (refine' y30 zBe ?_ ?_; rotate_left; exact zA3 [(od_ s.orders k).id, (od_ s.orders k).acct, (od_ s.orders k).inst] (by simp) _ hb1 (zAU _ (List.Mem.head _) (by simp)); intro w hcl; replace H := H.ext hcl; clear hcl) | (with_reducible first | apply zB | apply zD) | fail)
   exact ⟨_, rfl, H.cl, rfl⟩
  ·intro g w1 hcl1 hM0
   dsimp only [Know]
   rintro _ rfl
   have H := zE w1
   repeat' (first | refine y3 ?_ | refine z13 (zAA rfl rfl rfl (by simp only [ByteArray.size_append, bsz, List.length_singleton, List.length_cons, List.length_nil, zk]; omega)) ?_ | (with_reducible first | apply zB | apply zD) | fail)
   exact ⟨_, rfl, H.cl, rfl⟩
  ·intro g w1 hcl1 hM0
   dsimp only [Know]
   have H := zE w1
   repeat' (first | refine y3 ?_ | (refine z14 sg H ?_; intro b w H) | (with_reducible first | apply zB | apply zD) | fail)
   exact ⟨_, rfl, H.cl, ⟨_, rfl, H.mem⟩⟩
  ·intro g w1 hcl1 hM0
   dsimp only [Know]
   rintro _ ⟨b1, rfl, hb1⟩
   have H := zE w1
   repeat' (first | refine y3 ?_ | refine z13 (zBP sg (hsS _) rfl hb1 rfl rfl rfl rfl rfl rfl rfl rfl) ?_ | (with_reducible first | apply zB | apply zD) | fail)
   exact ⟨_, rfl, H.cl, rfl⟩
  ·intro g w1 hcl1 hM0
   dsimp only [Know]
   rintro _ rfl _ rfl
   have H := zE w1
   repeat' (first | refine y3 ?_ | refine z13 (zAA rfl rfl rfl (by simp only [ByteArray.size_append, bsz, List.length_singleton, List.length_cons, List.length_nil, zk]; omega)) ?_ | (with_reducible first | apply zB | apply zD) | fail)
   exact ⟨_, rfl, H.cl, rfl⟩
  ·intro g w1 hcl1 hM0
   dsimp only [Know]
   have H := zE w1
   repeat' (first | refine y3 ?_ | (refine z14 sg H ?_; intro b w H) | (with_reducible first | apply zB | apply zD) | fail)
   exact ⟨_, rfl, H.cl, ⟨_, rfl, H.mem⟩⟩
  ·intro g w1 hcl1 hM0
   dsimp only [Know]
   rintro _ ⟨b1, rfl, hb1⟩
   have H := zE w1
   repeat' (first | refine y3 ?_ | (refine' y30 zBe ?_ ?_; rotate_left; exact zA3 [(od_ s.orders k).price, (od_ s.orders k).left] (by simp) _ hb1 (zAU _ (List.Mem.head _) (by simp)); intro w hcl; replace H := H.ext hcl; clear hcl) | (with_reducible first | apply zB | apply zD) | fail)
   exact ⟨_, rfl, H.cl, rfl⟩
  ·intro g w1 hcl1 hM0
   dsimp only [Know]
   rintro _ rfl _ rfl
   have H := zE w1
   repeat' (first | refine y3 ?_ | refine z13 (zAA rfl rfl rfl (by simp only [ByteArray.size_append, bsz, List.length_singleton, List.length_cons, List.length_nil, zk]; omega)) ?_ | (with_reducible first | apply zB | apply zD) | fail)
   exact ⟨_, rfl, H.cl, rfl⟩
  ·intro g w1 hcl1 hM0
   dsimp only [Know]
   rintro _ rfl
   have H := zE w1
   repeat' (first | refine y1 sg ?_ | (with_reducible first | apply zB | apply zD) | fail)
   exact ⟨_, rfl, H.cl, rfl⟩
  intro g w hcl
  dsimp only [Know]
  rintro _ rfl
  have hcl0 := hcl
  replace H := H.ext hcl
  clear hcl
  repeat' (first | refine y1 sg ?_ | (with_reducible first | apply zB | apply zD) | refine zA ?_ | fail)
  exact zAS (k + 1) rfl ⟨zV (by omega), congrArg Value.string he.symm, trivial⟩ ⟨H.sub (List.sublist_cons_self _ _), hlt⟩ (by omega)
 obtain rfl : k = s.orders.length := by omega
 have d1 : decide ((s.orders.length : Int) < (s.orders.length : Int)) = false := decide_eq_false (by omega)
 obtain ⟨X7, hX7⟩ : ∃ X7, (X6 ++ (List.range s.orders.length).flatMap fun k => zDa (od_ s.orders k)) = X7 := ⟨_, rfl⟩
 have nX7 : X7.length ≤ 80000000 := by rw [← hX7, List.length_append]; omega
 rw [hX7]
 clear nl
 have h2 := zY (n := s.aucs.length) (by omega)
 have e2 : bytesOf X7 ++ bytesOf (short (zAX (s.aucs.length : Int))) = bytesOf (X7 ++ short s.aucs.length) := by rw [zBW _ (by omega), zBm]
 repeat' (first | refine y1 sg ?_ | refine y3 ?_ | refine y7 sg H ?_ | (refine' y30 zCw ?_ ?_; rotate_left; exact zC4 (s.aucs.length : Int) _; intro w hcl; replace H := H.ext hcl; clear hcl) | refine z13 (zAA rfl rfl rfl (by rw [bsz, bsz, zBW _ (by omega)]; omega)) ?_ | (with_reducible first | apply zB | apply zD | apply zC | apply zF | apply zN | apply zW) | refine zA ?_ | refine y24 ?_ | (refine y23 ?_ ?_; all_goals (intro h; try (exfalso; first | ((rw [d1] at h; cases h); done)))) | fail)
 rw [e2]
 obtain ⟨X8, hX8⟩ : ∃ X8, X7 ++ short s.aucs.length = X8 := ⟨_, rfl⟩
 have nX8 : X8.length ≤ 80000010 := by rw [← hX8, List.length_append]; omega
 rw [hX8]
 clear hlt d1 hk e2
 refine zK [(3, 3), (10, 12), (171, 233)] (fun k : Nat => [(10, .int .i64 (k : Int)), (3, .string (bytesOf (X8 ++ (List.range k).flatMap fun k => zCy (s.aucs.getD k default))))]) (fun k w => St w0 [cb _ (s.cells p) 29] w ∧ k ≤ s.aucs.length) (fun k => s.aucs.length - k) 0 ⟨rfl, congrArg (fun l => Value.string (bytesOf l)) (List.append_nil X8).symm, trivial⟩ ⟨H, Nat.zero_le _⟩ ?_
 clear H
 rintro k gh w ⟨H, hk⟩
 have nl := zi (ob := fun k => zCy (s.aucs.getD k default)) (C := 200100) (n := k) fun j hj => zGP (g5n j (by omega))
 by_cases hlt : k < s.aucs.length
 ·have d1 : decide ((k : Int) < (s.aucs.length : Int)) = true := decide_eq_true (by omega)
  have hbn := g5n k hlt
  have hbk := hub k hlt
  have hel : ael s.aucs p.ad k = (s.aucs.getD k default).cells (p.ad k).1 (p.ad k).2 := rfl
  have hau : zCy (s.aucs.getD k default) = zX [(s.aucs.getD k default).id, (s.aucs.getD k default).seller, (s.aucs.getD k default).inst] ++ (zk (s.aucs.getD k default).sealed ++ (zX [(s.aucs.getD k default).qty, (s.aucs.getD k default).reserve, (s.aucs.getD k default).step, (s.aucs.getD k default).fin, ((s.aucs.getD k default).bids.length : Int)] ++ (List.range (s.aucs.getD k default).bids.length).flatMap fun j => zDd ((s.aucs.getD k default).bids.getD j default))) := by
   simp only [zCy, zHI, zAV, zX, List.flatMap_cons, List.flatMap_nil, List.append_nil, List.append_assoc, zBW _ (show (s.aucs.getD k default).bids.length < 18446744073709551616 by omega)]
  obtain ⟨hnb, hcb, bb, offb, csb, Tb, frb, hb⟩ := hbk
  have hup : (X8 ++ (List.range (k + 1)).flatMap fun k => zCy (s.aucs.getD k default)) = (X8 ++ (List.range k).flatMap fun k => zCy (s.aucs.getD k default)) ++ zCy (s.aucs.getD k default) := by rw [zBH, List.append_assoc]
  have hl0 : (X8 ++ (List.range k).flatMap fun k => zCy (s.aucs.getD k default)).length = X8.length + ((List.range k).flatMap fun k => zCy (s.aucs.getD k default)).length := List.length_append
  generalize hY : (X8 ++ (List.range k).flatMap fun k => zCy (s.aucs.getD k default)) = Y at hup hl0 ⊢
  have h11 := nb [(s.aucs.getD k default).id, (s.aucs.getD k default).seller, (s.aucs.getD k default).inst]
  have h12 := nb [(s.aucs.getD k default).qty, (s.aucs.getD k default).reserve, (s.aucs.getD k default).step, (s.aucs.getD k default).fin, ((s.aucs.getD k default).bids.length : Int)]
  simp only [List.length_cons, List.length_nil] at h11 h12
  repeat' (first | refine y1 sg ?_ | refine y3 ?_ | refine y7 sg H ?_ | (with_reducible first | apply zB | apply zD | apply zC) | refine zA ?_ | fail)
  refine zL rfl (fun h => ?_) (fun h => absurd d1 (by rw [h]; decide))
  clear h
  repeat' (first | refine y1 sg ?_ | refine y3 ?_ | refine y7 sg H ?_ | (refine y10 sg H ?_; intro b w H) | (refine y11 sg H ?_; intro w H) | (refine y40 sg (hu) ?_ ?_ ?_; (omega); (omega)) | (refine y42 sg (hu) ((H.memF hF)) ?_ ?_; (omega)) | (refine zBD zZ 29 H.mem ?_ ?_; exact rfl; intro w hcl; replace H := H.ext hcl; clear hcl) | (refine' z1 0 (z5 H) ?_ ?_; rotate_left; first | exact z4 sg | exact (fun w hM => zJ sg rfl rfl hM (by repeat (first | exact List.Mem.head _ | refine List.Mem.tail _ ?_)) rfl rfl)) | (refine' z1 1 (z5 H) ?_ ?_; rotate_left; first | exact z4 sg | exact (fun w hM => zJ sg rfl rfl hM (by repeat (first | exact List.Mem.head _ | refine List.Mem.tail _ ?_)) rfl rfl)) | (refine' z1 2 (z5 H) ?_ ?_; rotate_left; first | exact z4 sg | exact (fun w hM => zJ sg rfl rfl hM (by repeat (first | exact List.Mem.head _ | refine List.Mem.tail _ ?_)) rfl rfl)) | (refine' z1 3 (z5 H) ?_ ?_; rotate_left; first | exact z4 sg | exact (fun w hM => zJ sg rfl rfl hM (by repeat (first | exact List.Mem.head _ | refine List.Mem.tail _ ?_)) rfl rfl)) | (refine' z1 4 (z5 H) ?_ ?_; rotate_left; first | exact z4 sg | exact (fun w hM => zJ sg rfl rfl hM (by repeat (first | exact List.Mem.head _ | refine List.Mem.tail _ ?_)) rfl rfl)) | (refine' z1 5 (z5 H) ?_ ?_; rotate_left; first | exact z4 sg | exact (fun w hM => zJ sg rfl rfl hM (by repeat (first | exact List.Mem.head _ | refine List.Mem.tail _ ?_)) rfl rfl)) | (refine' z1 6 (z5 H) ?_ ?_; rotate_left; first | exact z4 sg | exact (fun w hM => zJ sg rfl rfl hM (by repeat (first | exact List.Mem.head _ | refine List.Mem.tail _ ?_)) rfl rfl)) | (refine' z1 10 (z5 H) ?_ ?_; rotate_left; first | exact z4 sg | exact (fun w hM => zJ sg rfl rfl hM (by repeat (first | exact List.Mem.head _ | refine List.Mem.tail _ ?_)) rfl rfl)) | (refine' z1 11 (z5 H) ?_ ?_; rotate_left; first | exact z4 sg | exact (fun w hM => zJ sg rfl rfl hM (by repeat (first | exact List.Mem.head _ | refine List.Mem.tail _ ?_)) rfl rfl)) | (refine' z1 14 (z5 H) ?_ ?_; rotate_left; first | exact z4 sg | exact (fun w hM => zJ sg rfl rfl hM (by repeat (first | exact List.Mem.head _ | refine List.Mem.tail _ ?_)) rfl rfl)) | (refine' z1 15 (z5 H) ?_ ?_; rotate_left; first | exact z4 sg | exact (fun w hM => zJ sg rfl rfl hM (by repeat (first | exact List.Mem.head _ | refine List.Mem.tail _ ?_)) rfl rfl)) | (refine' z1 16 (z5 H) ?_ ?_; rotate_left; first | exact z4 sg | exact (fun w hM => zJ sg rfl rfl hM (by repeat (first | exact List.Mem.head _ | refine List.Mem.tail _ ?_)) rfl rfl)) | (refine' z1 17 (z5 H) ?_ ?_; rotate_left; first | exact z4 sg | exact (fun w hM => zJ sg rfl rfl hM (by repeat (first | exact List.Mem.head _ | refine List.Mem.tail _ ?_)) rfl rfl)) | (refine' z1 18 (z5 H) ?_ ?_; rotate_left; first | exact z4 sg | exact (fun w hM => zJ sg rfl rfl hM (by repeat (first | exact List.Mem.head _ | refine List.Mem.tail _ ?_)) rfl rfl)) | (refine' z1 19 (z5 H) ?_ ?_; rotate_left; first | exact z4 sg | exact (fun w hM => zJ sg rfl rfl hM (by repeat (first | exact List.Mem.head _ | refine List.Mem.tail _ ?_)) rfl rfl)) | (refine' z1 20 (z5 H) ?_ ?_; rotate_left; first | exact z4 sg | exact (fun w hM => zJ sg rfl rfl hM (by repeat (first | exact List.Mem.head _ | refine List.Mem.tail _ ?_)) rfl rfl)) | (refine' z1 21 (z5 H) ?_ ?_; rotate_left; first | exact z4 sg | exact (fun w hM => zJ sg rfl rfl hM (by repeat (first | exact List.Mem.head _ | refine List.Mem.tail _ ?_)) rfl rfl)) | (refine' z1 22 (z5 H) ?_ ?_; rotate_left; first | exact z4 sg | exact (fun w hM => zJ sg rfl rfl hM (by repeat (first | exact List.Mem.head _ | refine List.Mem.tail _ ?_)) rfl rfl)) | (refine' z1 23 (z5 H) ?_ ?_; rotate_left; first | exact z4 sg | exact (fun w hM => zJ sg rfl rfl hM (by repeat (first | exact List.Mem.head _ | refine List.Mem.tail _ ?_)) rfl rfl)) | (with_reducible first | apply zB | apply zD | apply zC | apply zF | apply zH) | refine zA ?_ | fail)
  refine RH.know [(3, 3), (190, 192), (195, 196), (207, 210)] [⟨7, 190, [], .box 3 [.int .i64 (s.aucs.getD k default).id, .int .i64 (s.aucs.getD k default).seller, .int .i64 (s.aucs.getD k default).inst] 2⟩, ⟨8, 191, [190], .val (.string (bytesOf (zX [(s.aucs.getD k default).id, (s.aucs.getD k default).seller, (s.aucs.getD k default).inst])))⟩, ⟨9, 192, [191], .val (.string (bytesOf Y ++ bytesOf (zX [(s.aucs.getD k default).id, (s.aucs.getD k default).seller, (s.aucs.getD k default).inst])))⟩, ⟨12, 195, [], .val (.string (bytesOf (zk (s.aucs.getD k default).sealed)))⟩, ⟨13, 196, [192, 195], .val (.string ((bytesOf Y ++ bytesOf (zX [(s.aucs.getD k default).id, (s.aucs.getD k default).seller, (s.aucs.getD k default).inst])) ++ bytesOf (zk (s.aucs.getD k default).sealed)))⟩, ⟨24, 207, [], .val (.int .i64 ((s.aucs.getD k default).bids.length : Int))⟩, ⟨25, 208, [207], .box 5 [.int .i64 (s.aucs.getD k default).qty, .int .i64 (s.aucs.getD k default).reserve, .int .i64 (s.aucs.getD k default).step, .int .i64 (s.aucs.getD k default).fin, .int .i64 ((s.aucs.getD k default).bids.length : Int)] 2⟩, ⟨26, 209, [208], .val (.string (bytesOf (zX [(s.aucs.getD k default).qty, (s.aucs.getD k default).reserve, (s.aucs.getD k default).step, (s.aucs.getD k default).fin, ((s.aucs.getD k default).bids.length : Int)])))⟩, ⟨27, 210, [196, 209], .val (.string (((bytesOf Y ++ bytesOf (zX [(s.aucs.getD k default).id, (s.aucs.getD k default).seller, (s.aucs.getD k default).inst])) ++ bytesOf (zk (s.aucs.getD k default).sealed)) ++ bytesOf (zX [(s.aucs.getD k default).qty, (s.aucs.getD k default).reserve, (s.aucs.getD k default).step, (s.aucs.getD k default).fin, ((s.aucs.getD k default).bids.length : Int)])))⟩, ⟨28, 3, [210], .val (.string (((bytesOf Y ++ bytesOf (zX [(s.aucs.getD k default).id, (s.aucs.getD k default).seller, (s.aucs.getD k default).inst])) ++ bytesOf (zk (s.aucs.getD k default).sealed)) ++ bytesOf (zX [(s.aucs.getD k default).qty, (s.aucs.getD k default).reserve, (s.aucs.getD k default).step, (s.aucs.getD k default).fin, ((s.aucs.getD k default).bids.length : Int)])))⟩] [⟨7, 190, [], .val undef⟩, ⟨8, 191, [190], .val undef⟩, ⟨9, 192, [191], .val undef⟩, ⟨12, 195, [], .val undef⟩, ⟨13, 196, [192, 195], .val undef⟩, ⟨24, 207, [], .val undef⟩, ⟨25, 208, [207], .val undef⟩, ⟨26, 209, [208], .val undef⟩, ⟨27, 210, [196, 209], .val undef⟩, ⟨28, 3, [210], .val undef⟩] [3] H.mem rfl (by decide +kernel) (KSt.cons rfl ?_ (KSt.cons rfl ?_ (KSt.cons rfl ?_ (KSt.cons rfl ?_ (KSt.cons rfl ?_ (KSt.cons rfl ?_ (KSt.cons rfl ?_ (KSt.cons rfl ?_ (KSt.cons rfl ?_ (KSt.cons rfl ?_ (KSt.nil))))))))))) ?_
  ·intro g w1 hcl1 hM0
   dsimp only [Know]
   have H := zE w1
   repeat' (first | refine y3 ?_ | (refine z14 sg H ?_; intro b w H) | (with_reducible first | apply zB | apply zD) | fail)
   exact ⟨_, rfl, H.cl, ⟨_, rfl, H.mem⟩⟩
  ·intro g w1 hcl1 hM0
   dsimp only [Know]
   rintro _ ⟨b1, rfl, hb1⟩
   have H := zE w1
   repeat' (first | refine y3 ?_ | (refine' y30 zBe ?_ ?_; rotate_left; exact zA3 [(s.aucs.getD k default).id, (s.aucs.getD k default).seller, (s.aucs.getD k default).inst] (by simp) _ hb1 (zAU _ (List.Mem.head _) (by simp)); intro w hcl; replace H := H.ext hcl; clear hcl) | (with_reducible first | apply zB | apply zD) | fail)
   exact ⟨_, rfl, H.cl, rfl⟩
  ·intro g w1 hcl1 hM0
   dsimp only [Know]
   rintro _ rfl
   have H := zE w1
   repeat' (first | refine y3 ?_ | refine z13 (zAA rfl rfl rfl (by simp only [ByteArray.size_append, bsz, List.length_singleton, List.length_cons, List.length_nil, zk]; omega)) ?_ | (with_reducible first | apply zB | apply zD) | fail)
   exact ⟨_, rfl, H.cl, rfl⟩
  ·intro g w1 hcl1 hM0
   dsimp only [Know]
   have H := zE w1
   repeat' (first | refine y3 ?_ | (refine' y30 zJL ?_ ?_; rotate_left; exact zIG (s.aucs.getD k default).sealed _; intro w hcl; replace H := H.ext hcl; clear hcl) | (with_reducible first | apply zB | apply zD) | fail)
   exact ⟨_, rfl, H.cl, rfl⟩
  ·intro g w1 hcl1 hM0
   dsimp only [Know]
   rintro _ rfl _ rfl
   have H := zE w1
   repeat' (first | refine y3 ?_ | refine z13 (zAA rfl rfl rfl (by simp only [ByteArray.size_append, bsz, List.length_singleton, List.length_cons, List.length_nil, zk]; omega)) ?_ | (with_reducible first | apply zB | apply zD) | fail)
   exact ⟨_, rfl, H.cl, rfl⟩
  ·intro g w1 hcl1 hM0
   dsimp only [Know]
   have H := zE w1
   repeat' (first | refine y1 sg ?_ | (with_reducible first | apply zB | apply zD) | fail)
   exact ⟨_, rfl, H.cl, rfl⟩
  ·intro g w1 hcl1 hM0
   dsimp only [Know]
   rintro _ rfl
   have H := zE w1
   repeat' (first | refine y3 ?_ | (refine z14 sg H ?_; intro b w H) | (with_reducible first | apply zB | apply zD) | fail)
   exact ⟨_, rfl, H.cl, ⟨_, rfl, H.mem⟩⟩
  ·intro g w1 hcl1 hM0
   dsimp only [Know]
   rintro _ ⟨b1, rfl, hb1⟩
   have H := zE w1
   repeat' (first | refine y3 ?_ | (refine' y30 zBe ?_ ?_; rotate_left; exact zA3 [(s.aucs.getD k default).qty, (s.aucs.getD k default).reserve, (s.aucs.getD k default).step, (s.aucs.getD k default).fin, ((s.aucs.getD k default).bids.length : Int)] (by simp) _ hb1 (zAU _ (List.Mem.head _) (by simp)); intro w hcl; replace H := H.ext hcl; clear hcl) | (with_reducible first | apply zB | apply zD) | fail)
   exact ⟨_, rfl, H.cl, rfl⟩
  ·intro g w1 hcl1 hM0
   dsimp only [Know]
   rintro _ rfl _ rfl
   have H := zE w1
   repeat' (first | refine y3 ?_ | refine z13 (zAA rfl rfl rfl (by simp only [ByteArray.size_append, bsz, List.length_singleton, List.length_cons, List.length_nil, zk]; omega)) ?_ | (with_reducible first | apply zB | apply zD) | fail)
   exact ⟨_, rfl, H.cl, rfl⟩
  ·intro g w1 hcl1 hM0
   dsimp only [Know]
   rintro _ rfl
   have H := zE w1
   repeat' (first | refine y1 sg ?_ | (with_reducible first | apply zB | apply zD) | fail)
   exact ⟨_, rfl, H.cl, rfl⟩
  intro g w hcl
  dsimp only [Know]
  rintro _ rfl
  have hcl0 := hcl
  replace H := H.ext hcl
  clear hcl
  obtain ⟨YY, hYY⟩ : ∃ YY, Y ++ (zX [(s.aucs.getD k default).id, (s.aucs.getD k default).seller, (s.aucs.getD k default).inst] ++ (zk (s.aucs.getD k default).sealed ++ zX [(s.aucs.getD k default).qty, (s.aucs.getD k default).reserve, (s.aucs.getD k default).step, (s.aucs.getD k default).fin, ((s.aucs.getD k default).bids.length : Int)])) = YY := ⟨_, rfl⟩
  have eYY : (((bytesOf Y ++ bytesOf (zX [(s.aucs.getD k default).id, (s.aucs.getD k default).seller, (s.aucs.getD k default).inst])) ++ bytesOf (zk (s.aucs.getD k default).sealed)) ++ bytesOf (zX [(s.aucs.getD k default).qty, (s.aucs.getD k default).reserve, (s.aucs.getD k default).step, (s.aucs.getD k default).fin, ((s.aucs.getD k default).bids.length : Int)])) = bytesOf YY := by rw [zBm, zBm, zBm, ← hYY]; simp only [List.append_assoc]
  rw [eYY]
  have nYY : YY.length ≤ Y.length + 100 := by rw [← hYY]; simp only [List.length_append, zk, List.length_singleton]; omega
  have hfin : bytesOf (X8 ++ (List.range (k + 1)).flatMap fun k => zCy (s.aucs.getD k default)) = bytesOf (YY ++ (List.range (s.aucs.getD k default).bids.length).flatMap fun j => zDd ((s.aucs.getD k default).bids.getD j default)) := by
   rw [hup, hau, ← hYY]; simp only [List.append_assoc]
  repeat' (first | refine y1 sg ?_ | (with_reducible first | apply zB | apply zD | apply zC | apply zF) | refine zA ?_ | fail)
  refine zK [(3, 3), (12, 12), (211, 233)] (fun j : Nat => [(12, .int .i64 (j : Int)), (3, .string (bytesOf (YY ++ (List.range j).flatMap fun j => zDd ((s.aucs.getD k default).bids.getD j default))))]) (fun j w => St w0 [cb _ ((s.aucs.getD k default).cells (p.ad k).1 (p.ad k).2) 81, cb _ (s.cells p) 29] w ∧ j ≤ (s.aucs.getD k default).bids.length) (fun j => (s.aucs.getD k default).bids.length - j) 0 ⟨rfl, congrArg (fun l => Value.string (bytesOf l)) (List.append_nil YY).symm, trivial⟩ ⟨H, Nat.zero_le _⟩ ?_
  clear H
  rintro j gj w ⟨H, hj⟩
  have nj := zi (ob := fun j => zDd ((s.aucs.getD k default).bids.getD j default)) (C := 20) (n := j) fun i hi => nb [((s.aucs.getD k default).bids.getD i default).acct, ((s.aucs.getD k default).bids.getD i default).amount]
  by_cases hjl : j < (s.aucs.getD k default).bids.length
  ·have d2 : decide ((j : Int) < ((s.aucs.getD k default).bids.length : Int)) = true := decide_eq_true (by omega)
   have h13 := nb [((s.aucs.getD k default).bids.getD j default).acct, ((s.aucs.getD k default).bids.getD j default).amount]
   simp only [List.length_cons, List.length_nil] at h13
   have he : bytesOf (YY ++ (List.range (j + 1)).flatMap fun j => zDd ((s.aucs.getD k default).bids.getD j default)) = bytesOf (YY ++ (List.range j).flatMap fun j => zDd ((s.aucs.getD k default).bids.getD j default)) ++ bytesOf (zX [((s.aucs.getD k default).bids.getD j default).acct, ((s.aucs.getD k default).bids.getD j default).amount]) := by
    rw [zBm, zBH]; simp only [zDd, List.append_assoc]
   have hl1 : (YY ++ (List.range j).flatMap fun j => zDd ((s.aucs.getD k default).bids.getD j default)).length = YY.length + ((List.range j).flatMap fun j => zDd ((s.aucs.getD k default).bids.getD j default)).length := List.length_append
   generalize hZ : (YY ++ (List.range j).flatMap fun j => zDd ((s.aucs.getD k default).bids.getD j default)) = Z at he hl1 ⊢
   repeat' (first | refine y1 sg ?_ | refine y3 ?_ | refine y7 sg H ?_ | (with_reducible first | apply zB | apply zD | apply zC) | refine zA ?_ | fail)
   refine zL rfl (fun h => ?_) (fun h => absurd d2 (by rw [h]; decide))
   clear h
   repeat' (first | refine y1 sg ?_ | refine y3 ?_ | (refine z14 sg H ?_; intro b w H) | (refine' y30 zBe ?_ ?_; rotate_left; exact zA3 [((s.aucs.getD k default).bids.getD j default).acct, ((s.aucs.getD k default).bids.getD j default).amount] (by simp) _ H.mem (zAU _ (List.Mem.head _) (by simp)); intro w hcl; replace H := H.ext hcl; clear hcl) | refine z13 (zAA rfl rfl rfl (by rw [bsz, bsz]; omega)) ?_ | (refine zBD zZ 17 (zI0 (x := cb _ ((s.aucs.getD k default).cells (p.ad k).1 (p.ad k).2) 81) (y := cb _ (s.cells p) 29) H.mem (by repeat (first | exact List.Mem.head _ | refine List.Mem.tail _ ?_)) (by repeat (first | exact List.Mem.head _ | refine List.Mem.tail _ ?_)) (H.memF hF)) ?_ ?_; exact rfl; intro w hcl; replace H := H.ext hcl; clear hcl) | ((with_reducible apply RH.nil); exact ((zI0 (x := cb _ ((s.aucs.getD k default).cells (p.ad k).1 (p.ad k).2) 81) (y := cb _ (s.cells p) 29) H.mem (by repeat (first | exact List.Mem.head _ | refine List.Mem.tail _ ?_)) (by repeat (first | exact List.Mem.head _ | refine List.Mem.tail _ ?_)) (H.memF hF)).sub (by intro p hp; repeat (first | exact hp | apply List.mem_cons_of_mem))); decide +kernel) | (refine' z1 0 (z6 H hF) ?_ ?_; rotate_left; first | exact z4 sg | exact (fun w hM => zJ sg rfl rfl hM (by repeat (first | exact List.Mem.head _ | refine List.Mem.tail _ ?_)) rfl rfl) | exact (fun w hM => zc sg hb rfl rfl rfl rfl rfl rfl rfl (by first | with_reducible exact Int.toNat_natCast _ | exact zS (by omega) (by omega) | with_reducible exact ze | exact zQ _) (by omega) (by omega)) | exact (fun w hM => zn sg hb (hM.sub (by intro p hp; exact List.mem_cons_of_mem _ (List.mem_cons_of_mem _ hp))) rfl rfl rfl rfl hjl rfl rfl)) | (refine' z1 1 (z6 H hF) ?_ ?_; rotate_left; first | exact z4 sg | exact (fun w hM => zJ sg rfl rfl hM (by repeat (first | exact List.Mem.head _ | refine List.Mem.tail _ ?_)) rfl rfl) | exact (fun w hM => zc sg hb rfl rfl rfl rfl rfl rfl rfl (by first | with_reducible exact Int.toNat_natCast _ | exact zS (by omega) (by omega) | with_reducible exact ze | exact zQ _) (by omega) (by omega)) | exact (fun w hM => zn sg hb (hM.sub (by intro p hp; exact List.mem_cons_of_mem _ (List.mem_cons_of_mem _ hp))) rfl rfl rfl rfl hjl rfl rfl)) | (refine' z1 2 (z6 H hF) ?_ ?_; rotate_left; first | exact z4 sg | exact (fun w hM => zJ sg rfl rfl hM (by repeat (first | exact List.Mem.head _ | refine List.Mem.tail _ ?_)) rfl rfl) | exact (fun w hM => zc sg hb rfl rfl rfl rfl rfl rfl rfl (by first | with_reducible exact Int.toNat_natCast _ | exact zS (by omega) (by omega) | with_reducible exact ze | exact zQ _) (by omega) (by omega)) | exact (fun w hM => zn sg hb (hM.sub (by intro p hp; exact List.mem_cons_of_mem _ (List.mem_cons_of_mem _ hp))) rfl rfl rfl rfl hjl rfl rfl)) | (refine' z1 3 (z6 H hF) ?_ ?_; rotate_left; first | exact z4 sg | exact (fun w hM => zJ sg rfl rfl hM (by repeat (first | exact List.Mem.head _ | refine List.Mem.tail _ ?_)) rfl rfl) | exact (fun w hM => zc sg hb rfl rfl rfl rfl rfl rfl rfl (by first | with_reducible exact Int.toNat_natCast _ | exact zS (by omega) (by omega) | with_reducible exact ze | exact zQ _) (by omega) (by omega)) | exact (fun w hM => zn sg hb (hM.sub (by intro p hp; exact List.mem_cons_of_mem _ (List.mem_cons_of_mem _ hp))) rfl rfl rfl rfl hjl rfl rfl)) | (refine' z1 4 (z6 H hF) ?_ ?_; rotate_left; first | exact z4 sg | exact (fun w hM => zJ sg rfl rfl hM (by repeat (first | exact List.Mem.head _ | refine List.Mem.tail _ ?_)) rfl rfl) | exact (fun w hM => zc sg hb rfl rfl rfl rfl rfl rfl rfl (by first | with_reducible exact Int.toNat_natCast _ | exact zS (by omega) (by omega) | with_reducible exact ze | exact zQ _) (by omega) (by omega)) | exact (fun w hM => zn sg hb (hM.sub (by intro p hp; exact List.mem_cons_of_mem _ (List.mem_cons_of_mem _ hp))) rfl rfl rfl rfl hjl rfl rfl)) | (refine' z1 5 (z6 H hF) ?_ ?_; rotate_left; first | exact z4 sg | exact (fun w hM => zJ sg rfl rfl hM (by repeat (first | exact List.Mem.head _ | refine List.Mem.tail _ ?_)) rfl rfl) | exact (fun w hM => zc sg hb rfl rfl rfl rfl rfl rfl rfl (by first | with_reducible exact Int.toNat_natCast _ | exact zS (by omega) (by omega) | with_reducible exact ze | exact zQ _) (by omega) (by omega)) | exact (fun w hM => zn sg hb (hM.sub (by intro p hp; exact List.mem_cons_of_mem _ (List.mem_cons_of_mem _ hp))) rfl rfl rfl rfl hjl rfl rfl)) | (refine' z1 6 (z6 H hF) ?_ ?_; rotate_left; first | exact z4 sg | exact (fun w hM => zJ sg rfl rfl hM (by repeat (first | exact List.Mem.head _ | refine List.Mem.tail _ ?_)) rfl rfl) | exact (fun w hM => zc sg hb rfl rfl rfl rfl rfl rfl rfl (by first | with_reducible exact Int.toNat_natCast _ | exact zS (by omega) (by omega) | with_reducible exact ze | exact zQ _) (by omega) (by omega)) | exact (fun w hM => zn sg hb (hM.sub (by intro p hp; exact List.mem_cons_of_mem _ (List.mem_cons_of_mem _ hp))) rfl rfl rfl rfl hjl rfl rfl)) | (refine' z1 7 (z6 H hF) ?_ ?_; rotate_left; first | exact z4 sg | exact (fun w hM => zJ sg rfl rfl hM (by repeat (first | exact List.Mem.head _ | refine List.Mem.tail _ ?_)) rfl rfl) | exact (fun w hM => zc sg hb rfl rfl rfl rfl rfl rfl rfl (by first | with_reducible exact Int.toNat_natCast _ | exact zS (by omega) (by omega) | with_reducible exact ze | exact zQ _) (by omega) (by omega)) | exact (fun w hM => zn sg hb (hM.sub (by intro p hp; exact List.mem_cons_of_mem _ (List.mem_cons_of_mem _ hp))) rfl rfl rfl rfl hjl rfl rfl)) | (refine' z1 8 (z6 H hF) ?_ ?_; rotate_left; first | exact z4 sg | exact (fun w hM => zJ sg rfl rfl hM (by repeat (first | exact List.Mem.head _ | refine List.Mem.tail _ ?_)) rfl rfl) | exact (fun w hM => zc sg hb rfl rfl rfl rfl rfl rfl rfl (by first | with_reducible exact Int.toNat_natCast _ | exact zS (by omega) (by omega) | with_reducible exact ze | exact zQ _) (by omega) (by omega)) | exact (fun w hM => zn sg hb (hM.sub (by intro p hp; exact List.mem_cons_of_mem _ (List.mem_cons_of_mem _ hp))) rfl rfl rfl rfl hjl rfl rfl)) | (refine' z1 9 (z6 H hF) ?_ ?_; rotate_left; first | exact z4 sg | exact (fun w hM => zJ sg rfl rfl hM (by repeat (first | exact List.Mem.head _ | refine List.Mem.tail _ ?_)) rfl rfl) | exact (fun w hM => zc sg hb rfl rfl rfl rfl rfl rfl rfl (by first | with_reducible exact Int.toNat_natCast _ | exact zS (by omega) (by omega) | with_reducible exact ze | exact zQ _) (by omega) (by omega)) | exact (fun w hM => zn sg hb (hM.sub (by intro p hp; exact List.mem_cons_of_mem _ (List.mem_cons_of_mem _ hp))) rfl rfl rfl rfl hjl rfl rfl)) | (refine' z1 10 (z6 H hF) ?_ ?_; rotate_left; first | exact z4 sg | exact (fun w hM => zJ sg rfl rfl hM (by repeat (first | exact List.Mem.head _ | refine List.Mem.tail _ ?_)) rfl rfl) | exact (fun w hM => zc sg hb rfl rfl rfl rfl rfl rfl rfl (by first | with_reducible exact Int.toNat_natCast _ | exact zS (by omega) (by omega) | with_reducible exact ze | exact zQ _) (by omega) (by omega)) | exact (fun w hM => zn sg hb (hM.sub (by intro p hp; exact List.mem_cons_of_mem _ (List.mem_cons_of_mem _ hp))) rfl rfl rfl rfl hjl rfl rfl)) | (refine' z1 11 (z6 H hF) ?_ ?_; rotate_left; first | exact z4 sg | exact (fun w hM => zJ sg rfl rfl hM (by repeat (first | exact List.Mem.head _ | refine List.Mem.tail _ ?_)) rfl rfl) | exact (fun w hM => zc sg hb rfl rfl rfl rfl rfl rfl rfl (by first | with_reducible exact Int.toNat_natCast _ | exact zS (by omega) (by omega) | with_reducible exact ze | exact zQ _) (by omega) (by omega)) | exact (fun w hM => zn sg hb (hM.sub (by intro p hp; exact List.mem_cons_of_mem _ (List.mem_cons_of_mem _ hp))) rfl rfl rfl rfl hjl rfl rfl)) | (refine' z1 12 (z6 H hF) ?_ ?_; rotate_left; first | exact z4 sg | exact (fun w hM => zJ sg rfl rfl hM (by repeat (first | exact List.Mem.head _ | refine List.Mem.tail _ ?_)) rfl rfl) | exact (fun w hM => zc sg hb rfl rfl rfl rfl rfl rfl rfl (by first | with_reducible exact Int.toNat_natCast _ | exact zS (by omega) (by omega) | with_reducible exact ze | exact zQ _) (by omega) (by omega)) | exact (fun w hM => zn sg hb (hM.sub (by intro p hp; exact List.mem_cons_of_mem _ (List.mem_cons_of_mem _ hp))) rfl rfl rfl rfl hjl rfl rfl)) | refine z12 13 (z6 H hF) ?_ | refine z12 14 (z6 H hF) ?_ | refine z12 15 (z6 H hF) ?_ | refine z12 16 (z6 H hF) ?_ | (with_reducible first | apply zB | apply zD | apply zC | apply zF | apply zH) | refine zA ?_ | fail)
   all_goals first
    | exact zM (j + 1) rfl ⟨zV (by omega), congrArg Value.string he.symm, trivial⟩ ⟨H.sub (List.sublist_cons_self _ _), hjl⟩ (by omega)
    | trace_state
  obtain rfl : j = (s.aucs.getD k default).bids.length := by omega
  have d2 : decide (((s.aucs.getD k default).bids.length : Int) < ((s.aucs.getD k default).bids.length : Int)) = false := decide_eq_false (by omega)
  repeat' (first | refine y1 sg ?_ | refine y3 ?_ | refine y7 sg H ?_ | (with_reducible first | apply zB | apply zD | apply zC | apply zN) | refine zA ?_ | (refine y23 ?_ ?_; all_goals (intro h; try (exfalso; first | ((rw [d2] at h; cases h); done)))) | fail)
  exact Again.mk3 (k + 1) rfl ⟨zV (by omega), congrArg Value.string hfin.symm, trivial⟩ ⟨H.sub (List.sublist_cons_self _ _), hlt⟩ (by omega)
 obtain rfl : k = s.aucs.length := by omega
 have d1 : decide ((s.aucs.length : Int) < (s.aucs.length : Int)) = false := decide_eq_false (by omega)
 have hall : (X8 ++ (List.range s.aucs.length).flatMap fun k => zCy (s.aucs.getD k default)) = zAz s := by
  rw [← hX8, ← hX7, ← hX6, ← hX5, ← hX4, ← hX3, ← hX2, ← hX1, ← hX]
  simp only [zAz, zAV, zX, List.flatMap_cons, List.flatMap_nil, List.append_nil, List.append_assoc, zBW _ (show s.accts.length < 18446744073709551616 by omega)]
 rw [hall]
 repeat' (first | refine y1 sg ?_ | refine y3 ?_ | refine y7 sg H ?_ | (with_reducible first | apply zB | apply zD | apply zC | apply zG | apply zN | apply zW) | refine zA ?_ | refine y24 ?_ | (refine y23 ?_ ?_; all_goals (intro h; try (exfalso; first | ((rw [d1] at h; cases h); done)))) | fail)
 exact zO rfl H.cl rfl
end Go.Proofs.YtggolnppckpdlaaGreat
