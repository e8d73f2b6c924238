/- Texts of ours, joined: the steps of the proof, or the claim's theorem. -/
import Derived.Test.YtggolnppckpdlaaGreatT39
set_option linter.unusedSimpArgs false
set_option linter.unusedVariables false
namespace Go.Proofs.YtggolnppckpdlaaGreat
open Go Go.Sk Go.RowKit
attribute [local irreducible] Go.Calls
set_option maxRecDepth 20000 in
set_option maxHeartbeats 16000000 in
theorem zOj {F : zI} (v : Vws) (p : VPt) (hB : VwB v) (w0 : World) (hF : Mem w0 F) (hs : VwM F v p) : Calls Tryz.prog 67 [.agg (v.cells p).toArray].toArray w0 (Ret (.string (bytesOf (zBA v))) w0) := by
 obtain ⟨ho, hl, hp, hn⟩ := hs
 obtain ⟨hno, hco, bo, offo, cso, To, fro, ho⟩ := ho
 obtain ⟨hnl, hcl', bl, offl, csl, Tl, frl, hl⟩ := hl
 obtain ⟨hnp, hcp, bp, offp, csp, Tp, frp, hp⟩ := hp
 obtain ⟨hnn, hcn, bn, offn, csn, Tn, frn, hn⟩ := hn
 obtain ⟨g1, g1n, g2, g3, g4, g4n⟩ := hB
 refine enter [.tmp 2] Tryz.func67 rfl Tryz.ntmps67 rfl rfl ?_
 have H := zE w0
 have h2 := zY (n := v.opn.length) (by omega)
 repeat' (first | refine y1 sg ?_ | refine y3 ?_ | refine y7 sg H ?_ | (refine y9 H ?_; intro b w H) | (refine' y30 zCw ?_ ?_; rotate_left; exact zC4 (v.opn.length : Int) _; intro w hcl; replace H := H.ext hcl; clear hcl) | (with_reducible first | apply zB | apply zD | apply zC | apply zF) | refine zA ?_ | fail)
 obtain ⟨X0, hX0⟩ : ∃ X0, short v.opn.length = X0 := ⟨_, rfl⟩
 have nX0 : X0.length ≤ 10 := by rw [← hX0]; omega
 rw [zBW _ (by omega), hX0]
 refine zK [(3, 5), (17, 50)] (fun k : Nat => [(4, .int .i64 (k : Int)), (3, .string (bytesOf (X0 ++ (List.range k).flatMap fun k => zDb (op_ v.opn k))))]) (fun k w => St w0 [cb _ (v.cells p) 35] w ∧ k ≤ v.opn.length) (fun k => v.opn.length - k) 0 ⟨rfl, congrArg (fun l => Value.string (bytesOf l)) (List.append_nil X0).symm, trivial⟩ ⟨H, Nat.zero_le _⟩ ?_
 clear H
 rintro k gh w ⟨H, hk⟩
 have nl := zi (ob := fun k => zDb (op_ v.opn k)) (C := 51) (n := k) fun j hj => zEv _
 by_cases hlt : k < v.opn.length
 ·have d1 : decide ((k : Int) < (v.opn.length : Int)) = true := decide_eq_true (by omega)
  have hl0 : (X0 ++ (List.range k).flatMap fun k => zDb (op_ v.opn k)).length = X0.length + ((List.range k).flatMap fun k => zDb (op_ v.opn k)).length := List.length_append
  obtain ⟨sd, hsd⟩ : ∃ m : Nat, (op_ v.opn k).side = (m : Int) := ⟨(op_ v.opn k).side.toNat, by have := g1n k hlt; omega⟩
  have h11 := nb [(op_ v.opn k).acct, (op_ v.opn k).id, (op_ v.opn k).inst]
  have h12 := nb [(op_ v.opn k).price, (op_ v.opn k).left]
  simp only [List.length_cons, List.length_nil] at h11 h12
  have he : bytesOf (X0 ++ (List.range (k + 1)).flatMap fun k => zDb (op_ v.opn k)) = ((bytesOf (X0 ++ (List.range k).flatMap fun k => zDb (op_ v.opn k)) ++ bytesOf (zX [(op_ v.opn k).acct, (op_ v.opn k).id, (op_ v.opn k).inst])) ++ bytesOf [sd]) ++ bytesOf (zX [(op_ v.opn k).price, (op_ v.opn k).left]) := by
   rw [zBm, zBm, zBm, zBH]; simp only [zDb, hsd, Int.toNat_natCast, List.append_assoc]
  generalize hY : (X0 ++ (List.range k).flatMap fun k => zDb (op_ v.opn k)) = Y at he hl0 ⊢
  have hsS : ∀ b, SlB [cb b [Value.int .u8 (op_ v.opn k).side] 5] 1 (some ⟨b, 0, none⟩) 1 b 0 [Value.int .u8 (op_ v.opn k).side] 5 (0, 0) (u8c [sd]) := fun b => by rw [hsd]; exact zD6
  repeat' (first | refine y1 sg ?_ | refine y3 ?_ | refine y7 sg H ?_ | (with_reducible first | apply zB | apply zD | apply zC) | refine zA ?_ | fail)
  refine zL rfl (fun h => ?_) (fun h => absurd d1 (by rw [h]; decide))
  clear h
  repeat' (first | refine y1 sg ?_ | refine y3 ?_ | refine y7 sg H ?_ | (refine y10 sg H ?_; intro b w H) | (refine y11 sg H ?_; intro w H) | (refine y40 sg (ho) ?_ ?_ ?_; (omega); (omega)) | (refine y42 sg (ho) ((H.memF hF)) ?_ ?_; (omega)) | (refine zBD zZ 23 H.mem ?_ ?_; exact rfl; intro w hcl; replace H := H.ext hcl; clear hcl) | (refine' z1 0 (z5 H) ?_ ?_; rotate_left; first | exact z4 sg | exact (fun w hM => zJ sg rfl rfl hM (by repeat (first | exact List.Mem.head _ | refine List.Mem.tail _ ?_)) rfl rfl)) | (refine' z1 1 (z5 H) ?_ ?_; rotate_left; first | exact z4 sg | exact (fun w hM => zJ sg rfl rfl hM (by repeat (first | exact List.Mem.head _ | refine List.Mem.tail _ ?_)) rfl rfl)) | (refine' z1 2 (z5 H) ?_ ?_; rotate_left; first | exact z4 sg | exact (fun w hM => zJ sg rfl rfl hM (by repeat (first | exact List.Mem.head _ | refine List.Mem.tail _ ?_)) rfl rfl)) | (refine' z1 3 (z5 H) ?_ ?_; rotate_left; first | exact z4 sg | exact (fun w hM => zJ sg rfl rfl hM (by repeat (first | exact List.Mem.head _ | refine List.Mem.tail _ ?_)) rfl rfl)) | (refine' z1 4 (z5 H) ?_ ?_; rotate_left; first | exact z4 sg | exact (fun w hM => zJ sg rfl rfl hM (by repeat (first | exact List.Mem.head _ | refine List.Mem.tail _ ?_)) rfl rfl)) | (refine' z1 5 (z5 H) ?_ ?_; rotate_left; first | exact z4 sg | exact (fun w hM => zJ sg rfl rfl hM (by repeat (first | exact List.Mem.head _ | refine List.Mem.tail _ ?_)) rfl rfl)) | (refine' z1 6 (z5 H) ?_ ?_; rotate_left; first | exact z4 sg | exact (fun w hM => zJ sg rfl rfl hM (by repeat (first | exact List.Mem.head _ | refine List.Mem.tail _ ?_)) rfl rfl)) | (refine' z1 10 (z5 H) ?_ ?_; rotate_left; first | exact z4 sg | exact (fun w hM => zJ sg rfl rfl hM (by repeat (first | exact List.Mem.head _ | refine List.Mem.tail _ ?_)) rfl rfl)) | (refine' z1 11 (z5 H) ?_ ?_; rotate_left; first | exact z4 sg | exact (fun w hM => zJ sg rfl rfl hM (by repeat (first | exact List.Mem.head _ | refine List.Mem.tail _ ?_)) rfl rfl)) | (refine' z1 15 (z5 H) ?_ ?_; rotate_left; first | exact z4 sg | exact (fun w hM => zJ sg rfl rfl hM (by repeat (first | exact List.Mem.head _ | refine List.Mem.tail _ ?_)) rfl rfl)) | (refine' z1 16 (z5 H) ?_ ?_; rotate_left; first | exact z4 sg | exact (fun w hM => zJ sg rfl rfl hM (by repeat (first | exact List.Mem.head _ | refine List.Mem.tail _ ?_)) rfl rfl)) | (refine' z1 17 (z5 H) ?_ ?_; rotate_left; first | exact z4 sg | exact (fun w hM => zJ sg rfl rfl hM (by repeat (first | exact List.Mem.head _ | refine List.Mem.tail _ ?_)) rfl rfl)) | (refine' z1 18 (z5 H) ?_ ?_; rotate_left; first | exact z4 sg | exact (fun w hM => zJ sg rfl rfl hM (by repeat (first | exact List.Mem.head _ | refine List.Mem.tail _ ?_)) rfl rfl)) | (with_reducible first | apply zB | apply zD | apply zC | apply zF | apply zH) | refine zA ?_ | fail)
  refine RH.know [(3, 3), (36, 38), (41, 43), (48, 50)] [⟨7, 36, [], .box 3 [.int .i64 (op_ v.opn k).acct, .int .i64 (op_ v.opn k).id, .int .i64 (op_ v.opn k).inst] 2⟩, ⟨8, 37, [36], .val (.string (bytesOf (zX [(op_ v.opn k).acct, (op_ v.opn k).id, (op_ v.opn k).inst])))⟩, ⟨9, 38, [37], .val (.string (bytesOf Y ++ bytesOf (zX [(op_ v.opn k).acct, (op_ v.opn k).id, (op_ v.opn k).inst])))⟩, ⟨12, 41, [], .box 1 [.int .u8 (op_ v.opn k).side] 5⟩, ⟨13, 42, [41], .val (.string (bytesOf [sd]))⟩, ⟨14, 43, [38, 42], .val (.string ((bytesOf Y ++ bytesOf (zX [(op_ v.opn k).acct, (op_ v.opn k).id, (op_ v.opn k).inst])) ++ bytesOf [sd]))⟩, ⟨19, 48, [], .box 2 [.int .i64 (op_ v.opn k).price, .int .i64 (op_ v.opn k).left] 2⟩, ⟨20, 49, [48], .val (.string (bytesOf (zX [(op_ v.opn k).price, (op_ v.opn k).left])))⟩, ⟨21, 50, [43, 49], .val (.string (((bytesOf Y ++ bytesOf (zX [(op_ v.opn k).acct, (op_ v.opn k).id, (op_ v.opn k).inst])) ++ bytesOf [sd]) ++ bytesOf (zX [(op_ v.opn k).price, (op_ v.opn k).left])))⟩, ⟨22, 3, [50], .val (.string (((bytesOf Y ++ bytesOf (zX [(op_ v.opn k).acct, (op_ v.opn k).id, (op_ v.opn k).inst])) ++ bytesOf [sd]) ++ bytesOf (zX [(op_ v.opn k).price, (op_ v.opn k).left])))⟩] [⟨7, 36, [], .val undef⟩, ⟨8, 37, [36], .val undef⟩, ⟨9, 38, [37], .val undef⟩, ⟨12, 41, [], .val undef⟩, ⟨13, 42, [41], .val undef⟩, ⟨14, 43, [38, 42], .val undef⟩, ⟨19, 48, [], .val undef⟩, ⟨20, 49, [48], .val undef⟩, ⟨21, 50, [43, 49], .val undef⟩, ⟨22, 3, [50], .val undef⟩] [3] H.mem rfl (by decide +kernel) (KSt.cons rfl ?_ (KSt.cons rfl ?_ (KSt.cons rfl ?_ (KSt.cons rfl ?_ (KSt.cons rfl ?_ (KSt.cons rfl ?_ (KSt.cons rfl ?_ (KSt.cons rfl ?_ (KSt.cons rfl ?_ (KSt.cons rfl ?_ (KSt.nil))))))))))) ?_
  ·intro g w1 hcl1 hM0
   dsimp only [Know]
   have H := zE w1
   repeat' (first | refine y3 ?_ | (refine z14 sg H ?_; intro b w H) | (with_reducible first | apply zB | apply zD) | fail)
   exact ⟨_, rfl, H.cl, ⟨_, rfl, H.mem⟩⟩
  ·intro g w1 hcl1 hM0
   dsimp only [Know]
   rintro _ ⟨b1, rfl, hb1⟩
   have H := zE w1
   repeat' (first | refine y3 ?_ | (refine' y30 zBe ?_ ?_; rotate_left; exact zA3 [(op_ v.opn k).acct, (op_ v.opn k).id, (op_ v.opn k).inst] (by simp) _ hb1 (zAU _ (List.Mem.head _) (by simp)); intro w hcl; replace H := H.ext hcl; clear hcl) | (with_reducible first | apply zB | apply zD) | fail)
   exact ⟨_, rfl, H.cl, rfl⟩
  ·intro g w1 hcl1 hM0
   dsimp only [Know]
   rintro _ rfl
   have H := zE w1
   repeat' (first | refine y3 ?_ | refine z13 (zAA rfl rfl rfl (by simp only [ByteArray.size_append, bsz, List.length_singleton, List.length_cons, List.length_nil, zk]; omega)) ?_ | (with_reducible first | apply zB | apply zD) | fail)
   exact ⟨_, rfl, H.cl, rfl⟩
  ·intro g w1 hcl1 hM0
   dsimp only [Know]
   have H := zE w1
   repeat' (first | refine y3 ?_ | (refine z14 sg H ?_; intro b w H) | (with_reducible first | apply zB | apply zD) | fail)
   exact ⟨_, rfl, H.cl, ⟨_, rfl, H.mem⟩⟩
  ·intro g w1 hcl1 hM0
   dsimp only [Know]
   rintro _ ⟨b1, rfl, hb1⟩
   have H := zE w1
   repeat' (first | refine y3 ?_ | refine z13 (zBP sg (hsS _) rfl hb1 rfl rfl rfl rfl rfl rfl rfl rfl) ?_ | (with_reducible first | apply zB | apply zD) | fail)
   exact ⟨_, rfl, H.cl, rfl⟩
  ·intro g w1 hcl1 hM0
   dsimp only [Know]
   rintro _ rfl _ rfl
   have H := zE w1
   repeat' (first | refine y3 ?_ | refine z13 (zAA rfl rfl rfl (by simp only [ByteArray.size_append, bsz, List.length_singleton, List.length_cons, List.length_nil, zk]; omega)) ?_ | (with_reducible first | apply zB | apply zD) | fail)
   exact ⟨_, rfl, H.cl, rfl⟩
  ·intro g w1 hcl1 hM0
   dsimp only [Know]
   have H := zE w1
   repeat' (first | refine y3 ?_ | (refine z14 sg H ?_; intro b w H) | (with_reducible first | apply zB | apply zD) | fail)
   exact ⟨_, rfl, H.cl, ⟨_, rfl, H.mem⟩⟩
  ·intro g w1 hcl1 hM0
   dsimp only [Know]
   rintro _ ⟨b1, rfl, hb1⟩
   have H := zE w1
   repeat' (first | refine y3 ?_ | (refine' y30 zBe ?_ ?_; rotate_left; exact zA3 [(op_ v.opn k).price, (op_ v.opn k).left] (by simp) _ hb1 (zAU _ (List.Mem.head _) (by simp)); intro w hcl; replace H := H.ext hcl; clear hcl) | (with_reducible first | apply zB | apply zD) | fail)
   exact ⟨_, rfl, H.cl, rfl⟩
  ·intro g w1 hcl1 hM0
   dsimp only [Know]
   rintro _ rfl _ rfl
   have H := zE w1
   repeat' (first | refine y3 ?_ | refine z13 (zAA rfl rfl rfl (by simp only [ByteArray.size_append, bsz, List.length_singleton, List.length_cons, List.length_nil, zk]; omega)) ?_ | (with_reducible first | apply zB | apply zD) | fail)
   exact ⟨_, rfl, H.cl, rfl⟩
  ·intro g w1 hcl1 hM0
   dsimp only [Know]
   rintro _ rfl
   have H := zE w1
   repeat' (first | refine y1 sg ?_ | (with_reducible first | apply zB | apply zD) | fail)
   exact ⟨_, rfl, H.cl, rfl⟩
  intro g w hcl
  dsimp only [Know]
  rintro _ rfl
  have hcl0 := hcl
  replace H := H.ext hcl
  clear hcl
  repeat' (first | refine y1 sg ?_ | (with_reducible first | apply zB | apply zD) | refine zA ?_ | fail)
  exact zAS (k + 1) rfl ⟨zV (by omega), congrArg Value.string he.symm, trivial⟩ ⟨H.sub (List.sublist_cons_self _ _), hlt⟩ (by omega)
 obtain rfl : k = v.opn.length := by omega
 have d1 : decide ((v.opn.length : Int) < (v.opn.length : Int)) = false := decide_eq_false (by omega)
 obtain ⟨X1, hX1⟩ : ∃ Z, (X0 ++ (List.range v.opn.length).flatMap fun k => zDb (op_ v.opn k)) = Z := ⟨_, rfl⟩
 have nX1 : X1.length ≤ 510010 := by rw [← hX1, List.length_append]; omega
 rw [hX1]
 clear nl
 have h2 := zY (n := v.lots.length) (by omega)
 have e2 : bytesOf X1 ++ bytesOf (short (zAX (v.lots.length : Int))) = bytesOf (X1 ++ short v.lots.length) := by rw [zBW _ (by omega), zBm]
 repeat' (first | refine y1 sg ?_ | refine y3 ?_ | refine y7 sg H ?_ | (refine' y30 zCw ?_ ?_; rotate_left; exact zC4 (v.lots.length : Int) _; intro w hcl; replace H := H.ext hcl; clear hcl) | refine z13 (zAA rfl rfl rfl (by rw [bsz, bsz, zBW _ (by omega)]; omega)) ?_ | (with_reducible first | apply zB | apply zD | apply zC | apply zF | apply zN | apply zW) | refine zA ?_ | refine y24 ?_ | (refine y23 ?_ ?_; all_goals (intro h; try (exfalso; first | ((rw [d1] at h; cases h); done)))) | fail)
 rw [e2]
 obtain ⟨X2, hX2⟩ : ∃ Z, X1 ++ short v.lots.length = Z := ⟨_, rfl⟩
 have nX2 : X2.length ≤ 510020 := by rw [← hX2, List.length_append]; omega
 rw [hX2]
 clear hlt d1 hk e2
 refine zK [(3, 3), (6, 7), (57, 80)] (fun k : Nat => [(6, .int .i64 (k : Int)), (3, .string (bytesOf (X2 ++ (List.range k).flatMap fun k => zDn (lt_ v.lots k))))]) (fun k w => St w0 [cb _ (v.cells p) 35] w ∧ k ≤ v.lots.length) (fun k => v.lots.length - k) 0 ⟨rfl, congrArg (fun l => Value.string (bytesOf l)) (List.append_nil X2).symm, trivial⟩ ⟨H, Nat.zero_le _⟩ ?_
 clear H
 rintro k gh w ⟨H, hk⟩
 have nl := zi (ob := fun k => zDn (lt_ v.lots k)) (C := 40) (n := k) fun j hj => zEw _
 by_cases hlt : k < v.lots.length
 ·have d1 : decide ((k : Int) < (v.lots.length : Int)) = true := decide_eq_true (by omega)
  have hl0 : (X2 ++ (List.range k).flatMap fun k => zDn (lt_ v.lots k)).length = X2.length + ((List.range k).flatMap fun k => zDn (lt_ v.lots k)).length := List.length_append
  have h11 := nb [(lt_ v.lots k).id, (lt_ v.lots k).seller, (lt_ v.lots k).inst, (lt_ v.lots k).qty]
  simp only [List.length_cons, List.length_nil] at h11
  have he : bytesOf (X2 ++ (List.range (k + 1)).flatMap fun k => zDn (lt_ v.lots k)) = bytesOf (X2 ++ (List.range k).flatMap fun k => zDn (lt_ v.lots k)) ++ bytesOf (zX [(lt_ v.lots k).id, (lt_ v.lots k).seller, (lt_ v.lots k).inst, (lt_ v.lots k).qty]) := by
   rw [zBm, zBH]; simp only [zDn, List.append_assoc]
  generalize hY : (X2 ++ (List.range k).flatMap fun k => zDn (lt_ v.lots k)) = Y at he hl0 ⊢
  repeat' (first | refine y1 sg ?_ | refine y3 ?_ | refine y7 sg H ?_ | (refine y10 sg H ?_; intro b w H) | (refine y11 sg H ?_; intro w H) | (refine y40 sg (hl) ?_ ?_ ?_; (omega); (omega)) | (refine y42 sg (hl) ((H.memF hF)) ?_ ?_; (omega)) | (refine z14 sg H ?_; intro b w H) | (refine' y30 zBe ?_ ?_; rotate_left; exact zA3 [(lt_ v.lots k).id, (lt_ v.lots k).seller, (lt_ v.lots k).inst, (lt_ v.lots k).qty] (by simp) _ H.mem (zAU _ (List.Mem.head _) (by simp)); intro w hcl; replace H := H.ext hcl; clear hcl) | refine z13 (zAA rfl rfl rfl (by rw [bsz, bsz]; omega)) ?_ | (with_reducible first | apply zB | apply zD | apply zC | apply zF | apply zH) | refine zA ?_ | (refine y23 ?_ ?_; all_goals (intro h; try (exfalso; first | ((rw [d1] at h; cases h); done)))) | fail)
  exact zM (k + 1) rfl ⟨zV (by omega), congrArg Value.string he.symm, trivial⟩ ⟨H.sub (List.Sublist.cons _ (List.Sublist.cons _ (List.Sublist.refl _))), hlt⟩ (by omega)
 obtain rfl : k = v.lots.length := by omega
 have d1 : decide ((v.lots.length : Int) < (v.lots.length : Int)) = false := decide_eq_false (by omega)
 obtain ⟨X3, hX3⟩ : ∃ Z, (X2 ++ (List.range v.lots.length).flatMap fun k => zDn (lt_ v.lots k)) = Z := ⟨_, rfl⟩
 have nX3 : X3.length ≤ 910020 := by rw [← hX3, List.length_append]; omega
 rw [hX3]
 clear nl
 have h2 := zY (n := v.poss.length) (by omega)
 have e2 : bytesOf X3 ++ bytesOf (short (zAX (v.poss.length : Int))) = bytesOf (X3 ++ short v.poss.length) := by rw [zBW _ (by omega), zBm]
 repeat' (first | refine y1 sg ?_ | refine y3 ?_ | refine y7 sg H ?_ | (refine' y30 zCw ?_ ?_; rotate_left; exact zC4 (v.poss.length : Int) _; intro w hcl; replace H := H.ext hcl; clear hcl) | refine z13 (zAA rfl rfl rfl (by rw [bsz, bsz, zBW _ (by omega)]; omega)) ?_ | (with_reducible first | apply zB | apply zD | apply zC | apply zF | apply zN | apply zW) | refine zA ?_ | refine y24 ?_ | (refine y23 ?_ ?_; all_goals (intro h; try (exfalso; first | ((rw [d1] at h; cases h); done)))) | fail)
 rw [e2]
 obtain ⟨X4, hX4⟩ : ∃ Z, X3 ++ short v.poss.length = Z := ⟨_, rfl⟩
 have nX4 : X4.length ≤ 910030 := by rw [← hX4, List.length_append]; omega
 rw [hX4]
 clear hlt d1 hk e2
 refine zK [(3, 3), (8, 9), (87, 114)] (fun k : Nat => [(8, .int .i64 (k : Int)), (3, .string (bytesOf (X4 ++ (List.range k).flatMap fun k => zDo (ps_ v.poss k))))]) (fun k w => St w0 [cb _ (v.cells p) 35] w ∧ k ≤ v.poss.length) (fun k => v.poss.length - k) 0 ⟨rfl, congrArg (fun l => Value.string (bytesOf l)) (List.append_nil X4).symm, trivial⟩ ⟨H, Nat.zero_le _⟩ ?_
 clear H
 rintro k gh w ⟨H, hk⟩
 have nl := zi (ob := fun k => zDo (ps_ v.poss k)) (C := 60) (n := k) fun j hj => zEx _
 by_cases hlt : k < v.poss.length
 ·have d1 : decide ((k : Int) < (v.poss.length : Int)) = true := decide_eq_true (by omega)
  have hl0 : (X4 ++ (List.range k).flatMap fun k => zDo (ps_ v.poss k)).length = X4.length + ((List.range k).flatMap fun k => zDo (ps_ v.poss k)).length := List.length_append
  have h11 := nb [(ps_ v.poss k).acct, (ps_ v.poss k).inst, (ps_ v.poss k).bought, (ps_ v.poss k).sold, (ps_ v.poss k).spent, (ps_ v.poss k).got]
  simp only [List.length_cons, List.length_nil] at h11
  have he : bytesOf (X4 ++ (List.range (k + 1)).flatMap fun k => zDo (ps_ v.poss k)) = bytesOf (X4 ++ (List.range k).flatMap fun k => zDo (ps_ v.poss k)) ++ bytesOf (zX [(ps_ v.poss k).acct, (ps_ v.poss k).inst, (ps_ v.poss k).bought, (ps_ v.poss k).sold, (ps_ v.poss k).spent, (ps_ v.poss k).got]) := by
   rw [zBm, zBH]; simp only [zDo, List.append_assoc]
  generalize hY : (X4 ++ (List.range k).flatMap fun k => zDo (ps_ v.poss k)) = Y at he hl0 ⊢
  repeat' (first | refine y1 sg ?_ | refine y3 ?_ | refine y7 sg H ?_ | (refine y10 sg H ?_; intro b w H) | (refine y11 sg H ?_; intro w H) | (refine y40 sg (hp) ?_ ?_ ?_; (omega); (omega)) | (refine y42 sg (hp) ((H.memF hF)) ?_ ?_; (omega)) | (refine z14 sg H ?_; intro b w H) | (refine' y30 zBe ?_ ?_; rotate_left; exact zA3 [(ps_ v.poss k).acct, (ps_ v.poss k).inst, (ps_ v.poss k).bought, (ps_ v.poss k).sold, (ps_ v.poss k).spent, (ps_ v.poss k).got] (by simp) _ H.mem (zAU _ (List.Mem.head _) (by simp)); intro w hcl; replace H := H.ext hcl; clear hcl) | refine z13 (zAA rfl rfl rfl (by rw [bsz, bsz]; omega)) ?_ | (with_reducible first | apply zB | apply zD | apply zC | apply zF | apply zH) | refine zA ?_ | (refine y23 ?_ ?_; all_goals (intro h; try (exfalso; first | ((rw [d1] at h; cases h); done)))) | fail)
  exact zM (k + 1) rfl ⟨zV (by omega), congrArg Value.string he.symm, trivial⟩ ⟨H.sub (List.Sublist.cons _ (List.Sublist.cons _ (List.Sublist.refl _))), hlt⟩ (by omega)
 obtain rfl : k = v.poss.length := by omega
 have d1 : decide ((v.poss.length : Int) < (v.poss.length : Int)) = false := decide_eq_false (by omega)
 obtain ⟨X5, hX5⟩ : ∃ Z, (X4 ++ (List.range v.poss.length).flatMap fun k => zDo (ps_ v.poss k)) = Z := ⟨_, rfl⟩
 have nX5 : X5.length ≤ 1510030 := by rw [← hX5, List.length_append]; omega
 rw [hX5]
 clear nl
 have h2 := zY (n := v.lins.length) (by omega)
 have e2 : bytesOf X5 ++ bytesOf (short (zAX (v.lins.length : Int))) = bytesOf (X5 ++ short v.lins.length) := by rw [zBW _ (by omega), zBm]
 repeat' (first | refine y1 sg ?_ | refine y3 ?_ | refine y7 sg H ?_ | (refine' y30 zCw ?_ ?_; rotate_left; exact zC4 (v.lins.length : Int) _; intro w hcl; replace H := H.ext hcl; clear hcl) | refine z13 (zAA rfl rfl rfl (by rw [bsz, bsz, zBW _ (by omega)]; omega)) ?_ | (with_reducible first | apply zB | apply zD | apply zC | apply zF | apply zN | apply zW) | refine zA ?_ | refine y24 ?_ | (refine y23 ?_ ?_; all_goals (intro h; try (exfalso; first | ((rw [d1] at h; cases h); done)))) | fail)
 rw [e2]
 obtain ⟨X6, hX6⟩ : ∃ Z, X5 ++ short v.lins.length = Z := ⟨_, rfl⟩
 have nX6 : X6.length ≤ 1510040 := by rw [← hX6, List.length_append]; omega
 rw [hX6]
 clear hlt d1 hk e2
 refine zK [(3, 3), (10, 12), (121, 161)] (fun k : Nat => [(10, .int .i64 (k : Int)), (3, .string (bytesOf (X6 ++ (List.range k).flatMap fun k => zDc (ln_ v.lins k))))]) (fun k w => St w0 [cb _ (v.cells p) 35] w ∧ k ≤ v.lins.length) (fun k => v.lins.length - k) 0 ⟨rfl, congrArg (fun l => Value.string (bytesOf l)) (List.append_nil X6).symm, trivial⟩ ⟨H, Nat.zero_le _⟩ ?_
 clear H
 rintro k gh w ⟨H, hk⟩
 have nl := zi (ob := fun k => zDc (ln_ v.lins k)) (C := 41) (n := k) fun j hj => zGQ _
 by_cases hlt : k < v.lins.length
 ·have d1 : decide ((k : Int) < (v.lins.length : Int)) = true := decide_eq_true (by omega)
  have hl0 : (X6 ++ (List.range k).flatMap fun k => zDc (ln_ v.lins k)).length = X6.length + ((List.range k).flatMap fun k => zDc (ln_ v.lins k)).length := List.length_append
  obtain ⟨sd, hsd⟩ : ∃ m : Nat, (ln_ v.lins k).kind = (m : Int) := ⟨(ln_ v.lins k).kind.toNat, by have := g4n k hlt; omega⟩
  have h11 := nb [(ln_ v.lins k).acct, (ln_ v.lins k).seq]
  have h12 := nb [zBE (ln_ v.lins k).delta, (ln_ v.lins k).bal]
  simp only [List.length_cons, List.length_nil] at h11 h12
  have he : bytesOf (X6 ++ (List.range (k + 1)).flatMap fun k => zDc (ln_ v.lins k)) = ((bytesOf (X6 ++ (List.range k).flatMap fun k => zDc (ln_ v.lins k)) ++ bytesOf (zX [(ln_ v.lins k).acct, (ln_ v.lins k).seq])) ++ bytesOf [sd]) ++ bytesOf (zX [zBE (ln_ v.lins k).delta, (ln_ v.lins k).bal]) := by
   rw [zBm, zBm, zBm, zBH]; simp only [zDc, hsd, Int.toNat_natCast, List.append_assoc]
  generalize hY : (X6 ++ (List.range k).flatMap fun k => zDc (ln_ v.lins k)) = Y at he hl0 ⊢
  have hsS : ∀ b, SlB [cb b [Value.int .u8 (ln_ v.lins k).kind] 5] 1 (some ⟨b, 0, none⟩) 1 b 0 [Value.int .u8 (ln_ v.lins k).kind] 5 (0, 0) (u8c [sd]) := fun b => by rw [hsd]; exact zD6
  repeat' (first | refine y1 sg ?_ | refine y3 ?_ | refine y7 sg H ?_ | (with_reducible first | apply zB | apply zD | apply zC) | refine zA ?_ | fail)
  refine zL rfl (fun h => ?_) (fun h => absurd d1 (by rw [h]; decide))
  clear h
  by_cases hd : (ln_ v.lins k).delta ≤ 0
  ·have d2 : decide ((ln_ v.lins k).delta ≤ 0) = true := decide_eq_true hd
   have hfo : IntKind.i64.wrap (IntKind.i64.wrap (-2 * (ln_ v.lins k).delta) - 1) = zBE (ln_ v.lins k).delta := by unfold zBE; rw [if_neg (by omega)]
   repeat' (first | refine y1 sg ?_ | refine y3 ?_ | refine y7 sg H ?_ | (refine y10 sg H ?_; intro b w H) | (refine y11 sg H ?_; intro w H) | (refine y40 sg (hn) ?_ ?_ ?_; (omega); (omega)) | (refine y42 sg (hn) ((H.memF hF)) ?_ ?_; (omega)) | (with_reducible first | apply zB | apply zD | apply zC | apply zF | apply zH) | refine zA ?_ | fail)
   refine zL rfl (fun h => ?_) (fun h => absurd h (by rw [d2]; decide))
   clear h
   repeat' (first | refine y1 sg ?_ | refine y3 ?_ | refine y7 sg H ?_ | (with_reducible first | apply zB | apply zD) | refine zA ?_ | fail)
   rw [hfo]
   repeat' (first | (refine zBD zZ 20 H.mem ?_ ?_; exact rfl; intro w hcl; replace H := H.ext hcl; clear hcl) | (refine' z1 0 (z5 H) ?_ ?_; rotate_left; first | exact z4 sg | exact (fun w hM => zJ sg rfl rfl hM (by repeat (first | exact List.Mem.head _ | refine List.Mem.tail _ ?_)) rfl rfl)) | (refine' z1 1 (z5 H) ?_ ?_; rotate_left; first | exact z4 sg | exact (fun w hM => zJ sg rfl rfl hM (by repeat (first | exact List.Mem.head _ | refine List.Mem.tail _ ?_)) rfl rfl)) | (refine' z1 2 (z5 H) ?_ ?_; rotate_left; first | exact z4 sg | exact (fun w hM => zJ sg rfl rfl hM (by repeat (first | exact List.Mem.head _ | refine List.Mem.tail _ ?_)) rfl rfl)) | (refine' z1 3 (z5 H) ?_ ?_; rotate_left; first | exact z4 sg | exact (fun w hM => zJ sg rfl rfl hM (by repeat (first | exact List.Mem.head _ | refine List.Mem.tail _ ?_)) rfl rfl)) | (refine' z1 4 (z5 H) ?_ ?_; rotate_left; first | exact z4 sg | exact (fun w hM => zJ sg rfl rfl hM (by repeat (first | exact List.Mem.head _ | refine List.Mem.tail _ ?_)) rfl rfl)) | (refine' z1 8 (z5 H) ?_ ?_; rotate_left; first | exact z4 sg | exact (fun w hM => zJ sg rfl rfl hM (by repeat (first | exact List.Mem.head _ | refine List.Mem.tail _ ?_)) rfl rfl)) | (refine' z1 9 (z5 H) ?_ ?_; rotate_left; first | exact z4 sg | exact (fun w hM => zJ sg rfl rfl hM (by repeat (first | exact List.Mem.head _ | refine List.Mem.tail _ ?_)) rfl rfl)) | (refine' z1 13 (z5 H) ?_ ?_; rotate_left; first | exact z4 sg | exact (fun w hM => zJ sg rfl rfl hM (by repeat (first | exact List.Mem.head _ | refine List.Mem.tail _ ?_)) rfl rfl)) | (refine' z1 14 (z5 H) ?_ ?_; rotate_left; first | exact z4 sg | exact (fun w hM => zJ sg rfl rfl hM (by repeat (first | exact List.Mem.head _ | refine List.Mem.tail _ ?_)) rfl rfl)) | (refine' z1 15 (z5 H) ?_ ?_; rotate_left; first | exact z4 sg | exact (fun w hM => zJ sg rfl rfl hM (by repeat (first | exact List.Mem.head _ | refine List.Mem.tail _ ?_)) rfl rfl)) | fail)
   refine RH.know [(3, 3), (148, 150), (153, 155), (159, 161)] [⟨5, 148, [], .box 2 [.int .i64 (ln_ v.lins k).acct, .int .i64 (ln_ v.lins k).seq] 2⟩, ⟨6, 149, [148], .val (.string (bytesOf (zX [(ln_ v.lins k).acct, (ln_ v.lins k).seq])))⟩, ⟨7, 150, [149], .val (.string (bytesOf Y ++ bytesOf (zX [(ln_ v.lins k).acct, (ln_ v.lins k).seq])))⟩, ⟨10, 153, [], .box 1 [.int .u8 (ln_ v.lins k).kind] 5⟩, ⟨11, 154, [153], .val (.string (bytesOf [sd]))⟩, ⟨12, 155, [150, 154], .val (.string ((bytesOf Y ++ bytesOf (zX [(ln_ v.lins k).acct, (ln_ v.lins k).seq])) ++ bytesOf [sd]))⟩, ⟨16, 159, [], .box 2 [.int .i64 (zBE (ln_ v.lins k).delta), .int .i64 (ln_ v.lins k).bal] 2⟩, ⟨17, 160, [159], .val (.string (bytesOf (zX [zBE (ln_ v.lins k).delta, (ln_ v.lins k).bal])))⟩, ⟨18, 161, [155, 160], .val (.string (((bytesOf Y ++ bytesOf (zX [(ln_ v.lins k).acct, (ln_ v.lins k).seq])) ++ bytesOf [sd]) ++ bytesOf (zX [zBE (ln_ v.lins k).delta, (ln_ v.lins k).bal])))⟩, ⟨19, 3, [161], .val (.string (((bytesOf Y ++ bytesOf (zX [(ln_ v.lins k).acct, (ln_ v.lins k).seq])) ++ bytesOf [sd]) ++ bytesOf (zX [zBE (ln_ v.lins k).delta, (ln_ v.lins k).bal])))⟩] [⟨5, 148, [], .val undef⟩, ⟨6, 149, [148], .val undef⟩, ⟨7, 150, [149], .val undef⟩, ⟨10, 153, [], .val undef⟩, ⟨11, 154, [153], .val undef⟩, ⟨12, 155, [150, 154], .val undef⟩, ⟨16, 159, [], .val undef⟩, ⟨17, 160, [159], .val undef⟩, ⟨18, 161, [155, 160], .val undef⟩, ⟨19, 3, [161], .val undef⟩] [3] H.mem rfl (by decide +kernel) (KSt.cons rfl ?_ (KSt.cons rfl ?_ (KSt.cons rfl ?_ (KSt.cons rfl ?_ (KSt.cons rfl ?_ (KSt.cons rfl ?_ (KSt.cons rfl ?_ (KSt.cons rfl ?_ (KSt.cons rfl ?_ (KSt.cons rfl ?_ (KSt.nil))))))))))) ?_
   ·intro g w1 hcl1 hM0
    dsimp only [Know]
    have H := zE w1
    repeat' (first | refine y3 ?_ | (refine z14 sg H ?_; intro b w H) | (with_reducible first | apply zB | apply zD) | fail)
    exact ⟨_, rfl, H.cl, ⟨_, rfl, H.mem⟩⟩
   ·intro g w1 hcl1 hM0
    dsimp only [Know]
    rintro _ ⟨b1, rfl, hb1⟩
    have H := zE w1
    repeat' (first | refine y3 ?_ | (refine' y30 zBe ?_ ?_; rotate_left; exact zA3 [(ln_ v.lins k).acct, (ln_ v.lins k).seq] (by simp) _ hb1 (zAU _ (List.Mem.head _) (by simp)); intro w hcl; replace H := H.ext hcl; clear hcl) | (with_reducible first | apply zB | apply zD) | fail)
    exact ⟨_, rfl, H.cl, rfl⟩
   ·intro g w1 hcl1 hM0
    dsimp only [Know]
    rintro _ rfl
    have H := zE w1
    repeat' (first | refine y3 ?_ | refine z13 (zAA rfl rfl rfl (by simp only [ByteArray.size_append, bsz, List.length_singleton, List.length_cons, List.length_nil, zk]; omega)) ?_ | (with_reducible first | apply zB | apply zD) | fail)
    exact ⟨_, rfl, H.cl, rfl⟩
   ·intro g w1 hcl1 hM0
    dsimp only [Know]
    have H := zE w1
    repeat' (first | refine y3 ?_ | (refine z14 sg H ?_; intro b w H) | (with_reducible first | apply zB | apply zD) | fail)
    exact ⟨_, rfl, H.cl, ⟨_, rfl, H.mem⟩⟩
   ·intro g w1 hcl1 hM0
    dsimp only [Know]
    rintro _ ⟨b1, rfl, hb1⟩
    have H := zE w1
    repeat' (first | refine y3 ?_ | refine z13 (zBP sg (hsS _) rfl hb1 rfl rfl rfl rfl rfl rfl rfl rfl) ?_ | (with_reducible first | apply zB | apply zD) | fail)
    exact ⟨_, rfl, H.cl, rfl⟩
   ·intro g w1 hcl1 hM0
    dsimp only [Know]
    rintro _ rfl _ rfl
    have H := zE w1
    repeat' (first | refine y3 ?_ | refine z13 (zAA rfl rfl rfl (by simp only [ByteArray.size_append, bsz, List.length_singleton, List.length_cons, List.length_nil, zk]; omega)) ?_ | (with_reducible first | apply zB | apply zD) | fail)
    exact ⟨_, rfl, H.cl, rfl⟩
   ·intro g w1 hcl1 hM0
    dsimp only [Know]
    have H := zE w1
    repeat' (first | refine y3 ?_ | (refine z14 sg H ?_; intro b w H) | (with_reducible first | apply zB | apply zD) | fail)
    exact ⟨_, rfl, H.cl, ⟨_, rfl, H.mem⟩⟩
   ·intro g w1 hcl1 hM0
    dsimp only [Know]
    rintro _ ⟨b1, rfl, hb1⟩
    have H := zE w1
    repeat' (first | refine y3 ?_ | (refine' y30 zBe ?_ ?_; rotate_left; exact zA3 [zBE (ln_ v.lins k).delta, (ln_ v.lins k).bal] (by simp) _ hb1 (zAU _ (List.Mem.head _) (by simp)); intro w hcl; replace H := H.ext hcl; clear hcl) | (with_reducible first | apply zB | apply zD) | fail)
    exact ⟨_, rfl, H.cl, rfl⟩
   ·intro g w1 hcl1 hM0
    dsimp only [Know]
    rintro _ rfl _ rfl
    have H := zE w1
    repeat' (first | refine y3 ?_ | refine z13 (zAA rfl rfl rfl (by simp only [ByteArray.size_append, bsz, List.length_singleton, List.length_cons, List.length_nil, zk]; omega)) ?_ | (with_reducible first | apply zB | apply zD) | fail)
    exact ⟨_, rfl, H.cl, rfl⟩
   ·intro g w1 hcl1 hM0
    dsimp only [Know]
    rintro _ rfl
    have H := zE w1
    repeat' (first | refine y1 sg ?_ | (with_reducible first | apply zB | apply zD) | fail)
    exact ⟨_, rfl, H.cl, rfl⟩
   intro g w hcl
   dsimp only [Know]
   rintro _ rfl
   have hcl0 := hcl
   replace H := H.ext hcl
   clear hcl
   repeat' (first | refine y1 sg ?_ | (with_reducible first | apply zB | apply zD) | refine zA ?_ | fail)
   exact zAS (k + 1) rfl ⟨zV (by omega), congrArg Value.string he.symm, trivial⟩ ⟨H.sub (List.sublist_cons_self _ _), hlt⟩ (by omega)
  ·have d2 : decide ((ln_ v.lins k).delta ≤ 0) = false := decide_eq_false hd
   have hfo : IntKind.i64.wrap (2 * (ln_ v.lins k).delta) = zBE (ln_ v.lins k).delta := by unfold zBE; rw [if_pos (by omega)]
   repeat' (first | refine y1 sg ?_ | refine y3 ?_ | refine y7 sg H ?_ | (refine y10 sg H ?_; intro b w H) | (refine y11 sg H ?_; intro w H) | (refine y40 sg (hn) ?_ ?_ ?_; (omega); (omega)) | (refine y42 sg (hn) ((H.memF hF)) ?_ ?_; (omega)) | (with_reducible first | apply zB | apply zD | apply zC | apply zF | apply zH) | refine zA ?_ | fail)
   refine zL rfl (fun h => absurd h (by rw [d2]; decide)) (fun h => ?_)
   clear h
   repeat' (first | (with_reducible first | apply zD | apply zH) | fail)
   rw [hfo]
   repeat' (first | (refine zBD zZ 20 H.mem ?_ ?_; exact rfl; intro w hcl; replace H := H.ext hcl; clear hcl) | (refine' z1 0 (z5 H) ?_ ?_; rotate_left; first | exact z4 sg | exact (fun w hM => zJ sg rfl rfl hM (by repeat (first | exact List.Mem.head _ | refine List.Mem.tail _ ?_)) rfl rfl)) | (refine' z1 1 (z5 H) ?_ ?_; rotate_left; first | exact z4 sg | exact (fun w hM => zJ sg rfl rfl hM (by repeat (first | exact List.Mem.head _ | refine List.Mem.tail _ ?_)) rfl rfl)) | (refine' z1 2 (z5 H) ?_ ?_; rotate_left; first | exact z4 sg | exact (fun w hM => zJ sg rfl rfl hM (by repeat (first | exact List.Mem.head _ | refine List.Mem.tail _ ?_)) rfl rfl)) | (refine' z1 3 (z5 H) ?_ ?_; rotate_left; first | exact z4 sg | exact (fun w hM => zJ sg rfl rfl hM (by repeat (first | exact List.Mem.head _ | refine List.Mem.tail _ ?_)) rfl rfl)) | (refine' z1 4 (z5 H) ?_ ?_; rotate_left; first | exact z4 sg | exact (fun w hM => zJ sg rfl rfl hM (by repeat (first | exact List.Mem.head _ | refine List.Mem.tail _ ?_)) rfl rfl)) | (refine' z1 8 (z5 H) ?_ ?_; rotate_left; first | exact z4 sg | exact (fun w hM => zJ sg rfl rfl hM (by repeat (first | exact List.Mem.head _ | refine List.Mem.tail _ ?_)) rfl rfl)) | (refine' z1 9 (z5 H) ?_ ?_; rotate_left; first | exact z4 sg | exact (fun w hM => zJ sg rfl rfl hM (by repeat (first | exact List.Mem.head _ | refine List.Mem.tail _ ?_)) rfl rfl)) | (refine' z1 13 (z5 H) ?_ ?_; rotate_left; first | exact z4 sg | exact (fun w hM => zJ sg rfl rfl hM (by repeat (first | exact List.Mem.head _ | refine List.Mem.tail _ ?_)) rfl rfl)) | (refine' z1 14 (z5 H) ?_ ?_; rotate_left; first | exact z4 sg | exact (fun w hM => zJ sg rfl rfl hM (by repeat (first | exact List.Mem.head _ | refine List.Mem.tail _ ?_)) rfl rfl)) | (refine' z1 15 (z5 H) ?_ ?_; rotate_left; first | exact z4 sg | exact (fun w hM => zJ sg rfl rfl hM (by repeat (first | exact List.Mem.head _ | refine List.Mem.tail _ ?_)) rfl rfl)) | fail)
   refine RH.know [(3, 3), (148, 150), (153, 155), (159, 161)] [⟨5, 148, [], .box 2 [.int .i64 (ln_ v.lins k).acct, .int .i64 (ln_ v.lins k).seq] 2⟩, ⟨6, 149, [148], .val (.string (bytesOf (zX [(ln_ v.lins k).acct, (ln_ v.lins k).seq])))⟩, ⟨7, 150, [149], .val (.string (bytesOf Y ++ bytesOf (zX [(ln_ v.lins k).acct, (ln_ v.lins k).seq])))⟩, ⟨10, 153, [], .box 1 [.int .u8 (ln_ v.lins k).kind] 5⟩, ⟨11, 154, [153], .val (.string (bytesOf [sd]))⟩, ⟨12, 155, [150, 154], .val (.string ((bytesOf Y ++ bytesOf (zX [(ln_ v.lins k).acct, (ln_ v.lins k).seq])) ++ bytesOf [sd]))⟩, ⟨16, 159, [], .box 2 [.int .i64 (zBE (ln_ v.lins k).delta), .int .i64 (ln_ v.lins k).bal] 2⟩, ⟨17, 160, [159], .val (.string (bytesOf (zX [zBE (ln_ v.lins k).delta, (ln_ v.lins k).bal])))⟩, ⟨18, 161, [155, 160], .val (.string (((bytesOf Y ++ bytesOf (zX [(ln_ v.lins k).acct, (ln_ v.lins k).seq])) ++ bytesOf [sd]) ++ bytesOf (zX [zBE (ln_ v.lins k).delta, (ln_ v.lins k).bal])))⟩, ⟨19, 3, [161], .val (.string (((bytesOf Y ++ bytesOf (zX [(ln_ v.lins k).acct, (ln_ v.lins k).seq])) ++ bytesOf [sd]) ++ bytesOf (zX [zBE (ln_ v.lins k).delta, (ln_ v.lins k).bal])))⟩] [⟨5, 148, [], .val undef⟩, ⟨6, 149, [148], .val undef⟩, ⟨7, 150, [149], .val undef⟩, ⟨10, 153, [], .val undef⟩, ⟨11, 154, [153], .val undef⟩, ⟨12, 155, [150, 154], .val undef⟩, ⟨16, 159, [], .val undef⟩, ⟨17, 160, [159], .val undef⟩, ⟨18, 161, [155, 160], .val undef⟩, ⟨19, 3, [161], .val undef⟩] [3] H.mem rfl (by decide +kernel) (KSt.cons rfl ?_ (KSt.cons rfl ?_ (KSt.cons rfl ?_ (KSt.cons rfl ?_ (KSt.cons rfl ?_ (KSt.cons rfl ?_ (KSt.cons rfl ?_ (KSt.cons rfl ?_ (KSt.cons rfl ?_ (KSt.cons rfl ?_ (KSt.nil))))))))))) ?_
   ·intro g w1 hcl1 hM0
    dsimp only [Know]
    have H := zE w1
    repeat' (first | refine y3 ?_ | (refine z14 sg H ?_; intro b w H) | (with_reducible first | apply zB | apply zD) | fail)
    exact ⟨_, rfl, H.cl, ⟨_, rfl, H.mem⟩⟩
   ·intro g w1 hcl1 hM0
    dsimp only [Know]
    rintro _ ⟨b1, rfl, hb1⟩
    have H := zE w1
    repeat' (first | refine y3 ?_ | (refine' y30 zBe ?_ ?_; rotate_left; exact zA3 [(ln_ v.lins k).acct, (ln_ v.lins k).seq] (by simp) _ hb1 (zAU _ (List.Mem.head _) (by simp)); intro w hcl; replace H := H.ext hcl; clear hcl) | (with_reducible first | apply zB | apply zD) | fail)
    exact ⟨_, rfl, H.cl, rfl⟩
   ·intro g w1 hcl1 hM0
    dsimp only [Know]
    rintro _ rfl
    have H := zE w1
    repeat' (first | refine y3 ?_ | refine z13 (zAA rfl rfl rfl (by simp only [ByteArray.size_append, bsz, List.length_singleton, List.length_cons, List.length_nil, zk]; omega)) ?_ | (with_reducible first | apply zB | apply zD) | fail)
    exact ⟨_, rfl, H.cl, rfl⟩
   ·intro g w1 hcl1 hM0
    dsimp only [Know]
    have H := zE w1
    repeat' (first | refine y3 ?_ | (refine z14 sg H ?_; intro b w H) | (with_reducible first | apply zB | apply zD) | fail)
    exact ⟨_, rfl, H.cl, ⟨_, rfl, H.mem⟩⟩
   ·intro g w1 hcl1 hM0
    dsimp only [Know]
    rintro _ ⟨b1, rfl, hb1⟩
    have H := zE w1
    repeat' (first | refine y3 ?_ | refine z13 (zBP sg (hsS _) rfl hb1 rfl rfl rfl rfl rfl rfl rfl rfl) ?_ | (with_reducible first | apply zB | apply zD) | fail)
    exact ⟨_, rfl, H.cl, rfl⟩
   ·intro g w1 hcl1 hM0
    dsimp only [Know]
    rintro _ rfl _ rfl
    have H := zE w1
    repeat' (first | refine y3 ?_ | refine z13 (zAA rfl rfl rfl (by simp only [ByteArray.size_append, bsz, List.length_singleton, List.length_cons, List.length_nil, zk]; omega)) ?_ | (with_reducible first | apply zB | apply zD) | fail)
    exact ⟨_, rfl, H.cl, rfl⟩
   ·intro g w1 hcl1 hM0
    dsimp only [Know]
    have H := zE w1
    repeat' (first | refine y3 ?_ | (refine z14 sg H ?_; intro b w H) | (with_reducible first | apply zB | apply zD) | fail)
    exact ⟨_, rfl, H.cl, ⟨_, rfl, H.mem⟩⟩
   ·intro g w1 hcl1 hM0
    dsimp only [Know]
    rintro _ ⟨b1, rfl, hb1⟩
    have H := zE w1
    repeat' (first | refine y3 ?_ | (refine' y30 zBe ?_ ?_; rotate_left; exact zA3 [zBE (ln_ v.lins k).delta, (ln_ v.lins k).bal] (by simp) _ hb1 (zAU _ (List.Mem.head _) (by simp)); intro w hcl; replace H := H.ext hcl; clear hcl) | (with_reducible first | apply zB | apply zD) | fail)
    exact ⟨_, rfl, H.cl, rfl⟩
   ·intro g w1 hcl1 hM0
    dsimp only [Know]
    rintro _ rfl _ rfl
    have H := zE w1
    repeat' (first | refine y3 ?_ | refine z13 (zAA rfl rfl rfl (by simp only [ByteArray.size_append, bsz, List.length_singleton, List.length_cons, List.length_nil, zk]; omega)) ?_ | (with_reducible first | apply zB | apply zD) | fail)
    exact ⟨_, rfl, H.cl, rfl⟩
   ·intro g w1 hcl1 hM0
    dsimp only [Know]
    rintro _ rfl
    have H := zE w1
    repeat' (first | refine y1 sg ?_ | (with_reducible first | apply zB | apply zD) | fail)
    exact ⟨_, rfl, H.cl, rfl⟩
   intro g w hcl
   dsimp only [Know]
   rintro _ rfl
   have hcl0 := hcl
   replace H := H.ext hcl
   clear hcl
   repeat' (first | refine y1 sg ?_ | (with_reducible first | apply zB | apply zD) | refine zA ?_ | fail)
   exact zAS (k + 1) rfl ⟨zV (by omega), congrArg Value.string he.symm, trivial⟩ ⟨H.sub (List.sublist_cons_self _ _), hlt⟩ (by omega)
 obtain rfl : k = v.lins.length := by omega
 have d1 : decide ((v.lins.length : Int) < (v.lins.length : Int)) = false := decide_eq_false (by omega)
 obtain ⟨X7, hX7⟩ : ∃ Z, (X6 ++ (List.range v.lins.length).flatMap fun k => zDc (ln_ v.lins k)) = Z := ⟨_, rfl⟩
 have nX7 : X7.length ≤ 1920040 := by rw [← hX7, List.length_append]; omega
 rw [hX7]
 clear nl
 have hall : X7 = zBA v := by
  rw [← hX7, ← hX6, ← hX5, ← hX4, ← hX3, ← hX2, ← hX1, ← hX0]
  simp only [zBA, zAV, List.append_assoc]
 rw [hall]
 repeat' (first | refine y1 sg ?_ | refine y3 ?_ | refine y7 sg H ?_ | (with_reducible first | apply zB | apply zD | apply zC | apply zG | apply zN | apply zW) | refine zA ?_ | refine y24 ?_ | (refine y23 ?_ ?_; all_goals (intro h; try (exfalso; first | ((rw [d1] at h; cases h); done)))) | fail)
 exact zO rfl H.cl rfl
end Go.Proofs.YtggolnppckpdlaaGreat
