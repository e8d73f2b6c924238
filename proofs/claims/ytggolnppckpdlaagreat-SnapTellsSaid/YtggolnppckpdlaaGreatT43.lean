/- Texts of ours, joined: the steps of the proof, or the claim's theorem. -/
import Derived.Test.YtggolnppckpdlaaGreatT26
import Derived.Test.YtggolnppckpdlaaGreatT31
set_option linter.unusedSimpArgs false
set_option linter.unusedVariables false
namespace Go.Proofs.YtggolnppckpdlaaGreat
open Go Go.Sk Go.RowKit
attribute [local irreducible] Go.Calls
theorem zDW {s : Sta} : zBq s = true ↔ zAi s.aucs = true ∧ ∀ k, k < s.aucs.length → zB8 s (s.aucs.getD k default) = false := by
 unfold zBq
 rw [Bool.and_eq_true]
 refine and_congr Iff.rfl ?_
 rcases zAC (fun j => zB8 s (s.aucs.getD j default)) s.aucs.length with ⟨k, hk, _, hb, hx⟩ | ⟨ha, hx⟩
 ·rw [hx, decide_eq_true (by omega)]
  constructor
  ·intro h; cases h
  ·intro h; have := h k hk; rw [this] at hb; cases hb
 ·rw [hx, decide_eq_false (by omega)]
  exact ⟨fun _ => ha, fun _ => rfl⟩
theorem zFm {s : Sta} {l : List Bid} : zDR s l = false ↔ ∀ k, k < l.length → (zAh s.accts (l.getD k default).acct).2 = true := by
 unfold zDR
 rcases zAC (zGa s l) l.length with ⟨k, hk, _, hb, hx⟩ | ⟨ha, hx⟩
 ·rw [hx, decide_eq_true (by omega)]
  constructor
  ·intro h; cases h
  ·intro h; have := h k hk; unfold zGa at hb; rw [this] at hb; cases hb
 ·rw [hx, decide_eq_false (by omega)]
  refine ⟨fun _ k hk => ?_, fun _ => rfl⟩
  have := ha k hk
  unfold zGa at this
  simpa using this
theorem zGt {s : Sta} {x : Auc} : zB8 s x = false ↔ x.id < s.nextA ∧ (zAh s.accts x.seller).2 = true ∧ (zBN s.insts x.inst).2 = true ∧ zDR s x.bids = false := by
 unfold zB8
 simp only [Bool.or_eq_false_iff, Bool.not_eq_false', decide_eq_false_iff_not]
 constructor
 ·rintro ⟨⟨⟨h1, h2⟩, h3⟩, h4⟩; exact ⟨by omega, h2, h3, h4⟩
 ·rintro ⟨h1, h2, h3, h4⟩; exact ⟨⟨⟨by omega, h2⟩, h3⟩, h4⟩
set_option maxHeartbeats 4000000 in
theorem zI1 {F : zI} (s : Sta) (p : SPt) (w0 : World) (hF : Mem w0 F) (hs0 : StaM F s p) :
  Calls Tryz.prog 151 [.agg (s.cells p).toArray].toArray w0 (Ret (.bool (zBq s)) w0) := by
 obtain ⟨⟨hnc, hcb, b0, off, cs, T, fr, hs⟩, hbids⟩ := id hs0.au
 refine enter [.tmp 2] Tryz.func151 rfl Tryz.ntmps151 rfl rfl ?_
 have H := zE w0
 repeat' (first | refine y1 sg ?_ | refine y3 ?_ | refine y7 sg H ?_ | (refine y9 H ?_; intro b w H) | (refine' y30 ent198 ?_ ?_; rotate_left; exact zMF s.aucs p.ad _ (H.memF hF) hs0.au; intro w hcl; replace H := H.ext hcl; clear hcl) | (with_reducible first | apply zB | apply zD | apply zC) | refine zA ?_ | fail)
 refine zL rfl (fun h => ?_) (fun h => ?_)
 ·repeat' (first | refine y1 sg ?_ | (with_reducible first | apply zB | apply zD | apply zC | apply zG | apply zP) | refine zA ?_ | fail)
  exact zO rfl H.cl (congrArg Value.bool (noB fun q => by
   have := (zDW.1 q).1
   rw [this] at h; cases h))
 have hR : zAi s.aucs = true := by simpa using h
 clear h
 repeat' (first | refine y1 sg ?_ | (with_reducible first | apply zB | apply zD | apply zC | apply zF | apply zH) | refine zA ?_ | fail)
 refine zK [(2, 11), (16, 74)] (fun k : Nat => [(3, .int .i64 (k : Int))]) (fun k w => k ≤ s.aucs.length ∧ (∀ j, j < k → zB8 s (s.aucs.getD j default) = false) ∧ St w0 [cb _ (s.cells p) 29] w) (fun k => s.aucs.length - k) 0 ⟨rfl, trivial⟩ ⟨Nat.zero_le _, fun j hj => absurd hj (Nat.not_lt_zero _), H⟩ ?_
 clear H
 rintro k gh w ⟨hk, hn, H⟩
 repeat' (first | refine y1 sg ?_ | refine y3 ?_ | refine y7 sg H ?_ | (with_reducible first | apply zB | apply zD | apply zC) | refine zA ?_ | fail)
 refine zL rfl (fun h => ?_) (fun h => ?_)
 ·have hlt : k < s.aucs.length := by have := of_decide_eq_true h; omega
  clear h
  obtain ⟨hbn, hbc, b1, off1, cs1, T1, fr1, hb⟩ := hbids k hlt
  obtain ⟨ac, ok, hac⟩ : ∃ ac ok, zAh s.accts (s.aucs.getD k default).seller = (ac, ok) := ⟨_, _, rfl⟩
  obtain ⟨ins, is, his⟩ : ∃ ac ok, zBN s.insts (s.aucs.getD k default).inst = (ac, ok) := ⟨_, _, rfl⟩
  have acct : ∀ {w : World}, Mem w F → Calls Tryz.prog 195 [.agg (s.cells p).toArray, .int .i64 (s.aucs.getD k default).seller].toArray w (Ret (.tuple #[.agg ac.cells.toArray, .bool ok]) w) := fun hF => by
   have := zFt s p (s.aucs.getD k default).seller _ hF hs0
   rw [hac] at this
   exact this
  have inst : ∀ {w : World}, Mem w F → Calls Tryz.prog 197 [.agg (s.cells p).toArray, .int .i64 (s.aucs.getD k default).inst].toArray w (Ret (.tuple #[.agg ins.cells.toArray, .bool is]) w) := fun hF => by
   have := zKw s p (s.aucs.getD k default).inst _ hF hs0
   rw [his] at this
   exact this
  have hfacts : zBq s = true → (s.aucs.getD k default).id < s.nextA ∧ ok = true ∧ is = true ∧ zDR s (s.aucs.getD k default).bids = false := fun q => by
   have := zGt.1 ((zDW.1 q).2 k hlt)
   rw [hac, his] at this
   exact this
  have hyes : (s.aucs.getD k default).id < s.nextA → ok = true → is = true → zDR s (s.aucs.getD k default).bids = false → zB8 s (s.aucs.getD k default) = false := fun h1 h2 h3 h4 => zGt.2 ⟨h1, by rw [hac]; exact h2, by rw [his]; exact h3, h4⟩
  repeat' (first | refine y1 sg ?_ | refine y3 ?_ | refine y5 sg ?_ | refine y7 sg H ?_ | (refine y10 sg H ?_; intro b w H) | (refine y11 sg H ?_; intro w H) | (refine y40 sg (hs) ?_ ?_ ?_; (omega); (omega)) | (refine y42 sg (hs) ((H.memF hF)) ?_ ?_; (omega)) | (refine' y30 zHj ?_ ?_; rotate_left; exact acct (H.memF hF); intro w hcl; replace H := H.ext hcl; clear hcl) | (refine' y30 zMx ?_ ?_; rotate_left; exact inst (H.memF hF); intro w hcl; replace H := H.ext hcl; clear hcl) | refine y13 ?_ | refine y14 ?_ | (refine y17 ?_ ?_; all_goals intro h) | (with_reducible first | apply zB | apply zD | apply zC | apply zF | apply zG | apply zH | apply zP | apply za) | refine zA ?_ | refine y21 ?_ | (refine y23 ?_ ?_; all_goals intro h) | fail)
  all_goals simp only [Bool.not_eq_true', Bool.not_eq_false', decide_eq_true_eq, decide_eq_false_iff_not] at *
  all_goals try exact zO rfl H.cl (congrArg Value.bool (noB fun q => by
    obtain ⟨q1, q2, q3, q4⟩ := hfacts q
    first | omega | (cases q2.symm.trans ‹ok = false›) | (cases q3.symm.trans ‹is = false›)))
  have hyes := hyes (by show (s.aucs.getD k default).id < s.nextA; omega) ‹ok = true› ‹is = true›
  clear acct inst
  refine zK [(2, 2), (9, 11), (55, 74)] (fun j : Nat => [(9, .int .i64 (j : Int))]) (fun j w => j ≤ (s.aucs.getD k default).bids.length ∧ (∀ i, i < j → (zAh s.accts ((s.aucs.getD k default).bids.getD i default).acct).2 = true) ∧ St w0 [cb _ ins.cells 72, cb _ ac.cells 70, cb _ ((s.aucs.getD k default).cells (p.ad k).1 (p.ad k).2) 81, cb _ (s.cells p) 29] w) (fun j => (s.aucs.getD k default).bids.length - j) 0 ⟨rfl, trivial⟩ ⟨Nat.zero_le _, fun j hj => absurd hj (Nat.not_lt_zero _), H⟩ ?_
  clear H
  rintro j gh2 w ⟨hj, hjn, H⟩
  repeat' (first | refine y1 sg ?_ | refine y3 ?_ | refine y7 sg H ?_ | (with_reducible first | apply zB | apply zD | apply zC) | refine zA ?_ | fail)
  refine zL rfl (fun h => ?_) (fun h => ?_)
  ·have hjl : j < (s.aucs.getD k default).bids.length := by have := of_decide_eq_true h; omega
   clear h
   obtain ⟨ac2, ok2, hac2⟩ : ∃ ac ok, zAh s.accts ((s.aucs.getD k default).bids.getD j default).acct = (ac, ok) := ⟨_, _, rfl⟩
   have acct2 : ∀ {w : World}, Mem w F → Calls Tryz.prog 195 [.agg (s.cells p).toArray, .int .i64 ((s.aucs.getD k default).bids.getD j default).acct].toArray w (Ret (.tuple #[.agg ac2.cells.toArray, .bool ok2]) w) := fun hF => by
    have := zFt s p ((s.aucs.getD k default).bids.getD j default).acct _ hF hs0
    rw [hac2] at this
    exact this
   repeat' (first | refine y1 sg ?_ | refine y3 ?_ | refine y7 sg H ?_ | (refine y10 sg H ?_; intro b w H) | (refine y11 sg H ?_; intro w H) | (refine zAE zZ 14 ?_ ?_; exact rfl; intro w hcl; replace H := H.ext hcl; clear hcl) | ((with_reducible apply zBc); decide +kernel) | (refine' z8 1 ?_ ?_; rotate_left; first | exact z9 sg | exact (fun w => zc sg hb rfl rfl rfl rfl rfl rfl rfl (by first | with_reducible exact Int.toNat_natCast _ | exact zS (by omega) (by omega) | with_reducible exact ze | exact zQ _) (by omega) (by omega))) | (refine' z8 3 ?_ ?_; rotate_left; first | exact z9 sg | exact (fun w => zc sg hb rfl rfl rfl rfl rfl rfl rfl (by first | with_reducible exact Int.toNat_natCast _ | exact zS (by omega) (by omega) | with_reducible exact ze | exact zQ _) (by omega) (by omega))) | (refine' z8 4 ?_ ?_; rotate_left; first | exact z9 sg | exact (fun w => zc sg hb rfl rfl rfl rfl rfl rfl rfl (by first | with_reducible exact Int.toNat_natCast _ | exact zS (by omega) (by omega) | with_reducible exact ze | exact zQ _) (by omega) (by omega))) | (refine' z8 5 ?_ ?_; rotate_left; first | exact z9 sg | exact (fun w => zc sg hb rfl rfl rfl rfl rfl rfl rfl (by first | with_reducible exact Int.toNat_natCast _ | exact zS (by omega) (by omega) | with_reducible exact ze | exact zQ _) (by omega) (by omega))) | (refine' z8 8 ?_ ?_; rotate_left; first | exact z9 sg | exact (fun w => zc sg hb rfl rfl rfl rfl rfl rfl rfl (by first | with_reducible exact Int.toNat_natCast _ | exact zS (by omega) (by omega) | with_reducible exact ze | exact zQ _) (by omega) (by omega))) | (refine' z8 9 ?_ ?_; rotate_left; first | exact z9 sg | exact (fun w => zc sg hb rfl rfl rfl rfl rfl rfl rfl (by first | with_reducible exact Int.toNat_natCast _ | exact zS (by omega) (by omega) | with_reducible exact ze | exact zQ _) (by omega) (by omega))) | (refine' z8 10 ?_ ?_; rotate_left; first | exact z9 sg | exact (fun w => zc sg hb rfl rfl rfl rfl rfl rfl rfl (by first | with_reducible exact Int.toNat_natCast _ | exact zS (by omega) (by omega) | with_reducible exact ze | exact zQ _) (by omega) (by omega))) | (refine' z8 13 ?_ ?_; rotate_left; first | exact z9 sg | exact (fun w => zc sg hb rfl rfl rfl rfl rfl rfl rfl (by first | with_reducible exact Int.toNat_natCast _ | exact zS (by omega) (by omega) | with_reducible exact ze | exact zQ _) (by omega) (by omega))) | refine z10 0 ?_ | refine z10 2 ?_ | refine z10 6 ?_ | refine z10 7 ?_ | refine z10 11 ?_ | refine z10 12 ?_ | refine z11 0 2 ?_ ?_ | refine z11 0 11 ?_ ?_ | refine z11 2 11 ?_ ?_ | refine z11 0 6 ?_ ?_ | refine z11 6 11 ?_ ?_ | refine z11 7 11 ?_ ?_ | ((with_reducible apply RA.c3 0 2 11); exact rfl; decide +kernel; exact rfl; exact rfl; exact rfl) | ((with_reducible apply RA.c3 0 6 11); exact rfl; decide +kernel; exact rfl; exact rfl; exact rfl) | (refine y44 sg (hb) ((H.memF hF)) ?_ ?_; (omega)) | (refine' y30 zHj ?_ ?_; rotate_left; exact acct2 (H.memF hF); intro w hcl; replace H := H.ext hcl; clear hcl) | (with_reducible first | apply zB | apply zD | apply zC | apply zF | apply zG | apply zH | apply zP | apply za) | refine zA ?_ | (refine y23 ?_ ?_; all_goals intro h) | fail)
   all_goals simp only [Bool.not_eq_true', Bool.not_eq_false'] at h
   all_goals first
    | exact zO rfl H.cl (congrArg Value.bool (noB fun q => by
      have := (zFm.1 (hfacts q).2.2.2) j hjl
      rw [hac2] at this
      cases this.symm.trans h))
    | (refine zM (j + 1) rfl ⟨zV (by omega), trivial⟩ ⟨hjl, fun i hi => ?_, H.sub (List.sublist_cons_self _ _)⟩ (by omega)
       rcases (show i < j ∨ i = j by omega) with g | rfl
       ·exact hjn i g
       ·rw [hac2]; exact h)
    | fail
  ·obtain rfl : j = (s.aucs.getD k default).bids.length := by have := of_decide_eq_false h; omega
   clear h
   repeat' (first | refine y1 sg ?_ | (with_reducible first | apply zB | apply zD | apply zN) | refine zA ?_ | fail)
   refine zAS (k + 1) rfl ⟨zV (by omega), trivial⟩ ⟨hlt, fun j hj => ?_, H.sub (by repeat (first | exact List.Sublist.refl _ | exact List.nil_sublist _ | apply List.Sublist.cons_cons | apply List.Sublist.cons))⟩ (by omega)
   rcases (show j < k ∨ j = k by omega) with g | rfl
   ·exact hn j g
   ·exact hyes (zFm.2 hjn)
 ·obtain rfl : k = s.aucs.length := by have := of_decide_eq_false h; omega
  repeat' (first | refine y1 sg ?_ | (with_reducible first | apply zB | apply zD | apply zC | apply zG | apply zN | apply zW) | refine zA ?_ | refine y24 ?_ | fail)
  exact zO rfl H.cl (congrArg Value.bool (zDW.2 ⟨hR, hn⟩).symm)
end Go.Proofs.YtggolnppckpdlaaGreat
