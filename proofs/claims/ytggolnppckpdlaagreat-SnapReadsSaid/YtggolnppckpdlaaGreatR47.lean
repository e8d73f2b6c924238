/- Texts of ours, joined: the steps of the proof, or the claim's theorem. -/
import Derived.Test.YtggolnppckpdlaaGreatR24
import Derived.Test.YtggolnppckpdlaaGreatR30
set_option linter.unusedSimpArgs false
set_option linter.unusedVariables false
namespace Go.Proofs.YtggolnppckpdlaaGreat
open Go Go.Sk Go.RowKit
attribute [local irreducible] Go.Calls
theorem zDK {s : Sta} : zBi s = true ↔ zAf s.aucs = true ∧ ∀ k, k < s.aucs.length → zBz s (s.aucs.getD k default) = false := by
 unfold zBi
 rw [Bool.and_eq_true]
 refine and_congr Iff.rfl ?_
 rcases z7 (fun j => zBz s (s.aucs.getD j default)) s.aucs.length with ⟨k, hk, _, hb, hx⟩ | ⟨ha, hx⟩
 ·rw [hx, decide_eq_true (by omega)]
  constructor
  ·intro h; cases h
  ·intro h; have := h k hk; rw [this] at hb; cases hb
 ·rw [hx, decide_eq_false (by omega)]
  exact ⟨fun _ => ha, fun _ => rfl⟩
theorem zFO {s : Sta} {l : List Bid} : zDF s l = false ↔ ∀ k, k < l.length → (zAd s.accts (l.getD k default).acct).2 = true := by
 unfold zDF
 rcases z7 (zGN s l) l.length with ⟨k, hk, _, hb, hx⟩ | ⟨ha, hx⟩
 ·rw [hx, decide_eq_true (by omega)]
  constructor
  ·intro h; cases h
  ·intro h; have := h k hk; unfold zGN at hb; rw [this] at hb; cases hb
 ·rw [hx, decide_eq_false (by omega)]
  refine ⟨fun _ k hk => ?_, fun _ => rfl⟩
  have := ha k hk
  unfold zGN at this
  simpa using this
theorem zGY {s : Sta} {x : Auc} : zBz s x = false ↔ x.id < s.nextA ∧ (zAd s.accts x.seller).2 = true ∧ (zBG s.insts x.inst).2 = true ∧ zDF s x.bids = false := by
 unfold zBz
 simp only [Bool.or_eq_false_iff, Bool.not_eq_false', decide_eq_false_iff_not]
 constructor
 ·rintro ⟨⟨⟨h1, h2⟩, h3⟩, h4⟩; exact ⟨by omega, h2, h3, h4⟩
 ·rintro ⟨h1, h2, h3, h4⟩; exact ⟨⟨⟨by omega, h2⟩, h3⟩, h4⟩
set_option maxHeartbeats 4000000 in
theorem zI2 {F : zI} (s : Sta) (p : SPt) (w0 : World) (hF : Mem w0 F) (hs0 : StaM F s p) :
  Calls Tryz.prog 151 [.agg (s.cells p).toArray].toArray w0 (Ret (.bool (zBi s)) w0) := by
 obtain ⟨⟨hnc, hcb, b0, off, cs, T, fr, hs⟩, hbids⟩ := id hs0.au
 refine enter [.tmp 2] Tryz.func151 rfl Tryz.ntmps151 rfl rfl ?_
 have H := zH w0
 repeat' (first | refine y1 sg ?_ | refine y3 ?_ | refine y7 sg H ?_ | (refine y9 H ?_; intro b w H) | (refine' y30 ent198 ?_ ?_; rotate_left; exact zMO s.aucs p.ad _ (H.memF hF) hs0.au; intro w hcl; replace H := H.ext hcl; clear hcl) | (with_reducible first | apply zB | apply zD | apply zC) | refine zA ?_ | fail)
 refine zM rfl (fun h => ?_) (fun h => ?_)
 ·repeat' (first | refine y1 sg ?_ | (with_reducible first | apply zB | apply zD | apply zC | apply zF | apply zO) | refine zA ?_ | fail)
  exact zQ rfl H.cl (congrArg Value.bool (noB fun q => by
   have := (zDK.1 q).1
   rw [this] at h; cases h))
 have hR : zAf s.aucs = true := by simpa using h
 clear h
 repeat' (first | refine y1 sg ?_ | (with_reducible first | apply zB | apply zD | apply zC | apply zE | apply zG) | refine zA ?_ | fail)
 refine zK [(2, 11), (16, 74)] (fun k : Nat => [(3, .int .i64 (k : Int))]) (fun k w => k ≤ s.aucs.length ∧ (∀ j, j < k → zBz s (s.aucs.getD j default) = false) ∧ St w0 [cb _ (s.cells p) 29] w) (fun k => s.aucs.length - k) 0 ⟨rfl, trivial⟩ ⟨Nat.zero_le _, fun j hj => absurd hj (Nat.not_lt_zero _), H⟩ ?_
 clear H
 rintro k gh w ⟨hk, hn, H⟩
 repeat' (first | refine y1 sg ?_ | refine y3 ?_ | refine y7 sg H ?_ | (with_reducible first | apply zB | apply zD | apply zC) | refine zA ?_ | fail)
 refine zM rfl (fun h => ?_) (fun h => ?_)
 ·have hlt : k < s.aucs.length := by have := of_decide_eq_true h; omega
  clear h
  obtain ⟨hbn, hbc, b1, off1, cs1, T1, fr1, hb⟩ := hbids k hlt
  obtain ⟨ac, ok, hac⟩ : ∃ ac ok, zAd s.accts (s.aucs.getD k default).seller = (ac, ok) := ⟨_, _, rfl⟩
  obtain ⟨ins, is, his⟩ : ∃ ac ok, zBG s.insts (s.aucs.getD k default).inst = (ac, ok) := ⟨_, _, rfl⟩
  have acct : ∀ {w : World}, Mem w F → Calls Tryz.prog 195 [.agg (s.cells p).toArray, .int .i64 (s.aucs.getD k default).seller].toArray w (Ret (.tuple #[.agg ac.cells.toArray, .bool ok]) w) := fun hF => by
   have := zFa s p (s.aucs.getD k default).seller _ hF hs0
   rw [hac] at this
   exact this
  have inst : ∀ {w : World}, Mem w F → Calls Tryz.prog 197 [.agg (s.cells p).toArray, .int .i64 (s.aucs.getD k default).inst].toArray w (Ret (.tuple #[.agg ins.cells.toArray, .bool is]) w) := fun hF => by
   have := zK0 s p (s.aucs.getD k default).inst _ hF hs0
   rw [his] at this
   exact this
  have hfacts : zBi s = true → (s.aucs.getD k default).id < s.nextA ∧ ok = true ∧ is = true ∧ zDF s (s.aucs.getD k default).bids = false := fun q => by
   have := zGY.1 ((zDK.1 q).2 k hlt)
   rw [hac, his] at this
   exact this
  have hyes : (s.aucs.getD k default).id < s.nextA → ok = true → is = true → zDF s (s.aucs.getD k default).bids = false → zBz s (s.aucs.getD k default) = false := fun h1 h2 h3 h4 => zGY.2 ⟨h1, by rw [hac]; exact h2, by rw [his]; exact h3, h4⟩
  repeat' (first | refine y1 sg ?_ | refine y3 ?_ | refine y5 sg ?_ | refine y7 sg H ?_ | (refine y10 sg H ?_; intro b w H) | (refine y11 sg H ?_; intro w H) | (refine y40 sg (hs) ?_ ?_ ?_; (omega); (omega)) | (refine y42 sg (hs) ((H.memF hF)) ?_ ?_; (omega)) | (refine' y30 zHT ?_ ?_; rotate_left; exact acct (H.memF hF); intro w hcl; replace H := H.ext hcl; clear hcl) | (refine' y30 zMv ?_ ?_; rotate_left; exact inst (H.memF hF); intro w hcl; replace H := H.ext hcl; clear hcl) | refine y13 ?_ | refine y14 ?_ | (refine y17 ?_ ?_; all_goals intro h) | (with_reducible first | apply zB | apply zD | apply zC | apply zE | apply zF | apply zG | apply zO | apply zW) | refine zA ?_ | refine y21 ?_ | (refine y23 ?_ ?_; all_goals intro h) | fail)
  all_goals simp only [Bool.not_eq_true', Bool.not_eq_false', decide_eq_true_eq, decide_eq_false_iff_not] at *
  all_goals try exact zQ rfl H.cl (congrArg Value.bool (noB fun q => by
    obtain ⟨q1, q2, q3, q4⟩ := hfacts q
    first | omega | (cases q2.symm.trans ‹ok = false›) | (cases q3.symm.trans ‹is = false›)))
  have hyes := hyes (by show (s.aucs.getD k default).id < s.nextA; omega) ‹ok = true› ‹is = true›
  clear acct inst
  refine zK [(2, 2), (9, 11), (55, 74)] (fun j : Nat => [(9, .int .i64 (j : Int))]) (fun j w => j ≤ (s.aucs.getD k default).bids.length ∧ (∀ i, i < j → (zAd s.accts ((s.aucs.getD k default).bids.getD i default).acct).2 = true) ∧ St w0 [cb _ ins.cells 72, cb _ ac.cells 70, cb _ ((s.aucs.getD k default).cells (p.ad k).1 (p.ad k).2) 81, cb _ (s.cells p) 29] w) (fun j => (s.aucs.getD k default).bids.length - j) 0 ⟨rfl, trivial⟩ ⟨Nat.zero_le _, fun j hj => absurd hj (Nat.not_lt_zero _), H⟩ ?_
  clear H
  rintro j gh2 w ⟨hj, hjn, H⟩
  repeat' (first | refine y1 sg ?_ | refine y3 ?_ | refine y7 sg H ?_ | (with_reducible first | apply zB | apply zD | apply zC) | refine zA ?_ | fail)
  refine zM rfl (fun h => ?_) (fun h => ?_)
  ·have hjl : j < (s.aucs.getD k default).bids.length := by have := of_decide_eq_true h; omega
   clear h
   obtain ⟨ac2, ok2, hac2⟩ : ∃ ac ok, zAd s.accts ((s.aucs.getD k default).bids.getD j default).acct = (ac, ok) := ⟨_, _, rfl⟩
   have acct2 : ∀ {w : World}, Mem w F → Calls Tryz.prog 195 [.agg (s.cells p).toArray, .int .i64 ((s.aucs.getD k default).bids.getD j default).acct].toArray w (Ret (.tuple #[.agg ac2.cells.toArray, .bool ok2]) w) := fun hF => by
    have := zFa s p ((s.aucs.getD k default).bids.getD j default).acct _ hF hs0
    rw [hac2] at this
    exact this
   repeat' (first | refine y1 sg ?_ | refine y3 ?_ | refine y7 sg H ?_ | (refine y10 sg H ?_; intro b w H) | (refine y11 sg H ?_; intro w H) | (refine zw mixed 14 ?_ ?_; exact rfl; intro w hcl; replace H := H.ext hcl; clear hcl) | ((with_reducible apply zBD); decide +kernel) | (refine' z8 1 ?_ ?_; rotate_left; first | exact z9 sg | exact (fun w => zAK sg hb rfl rfl rfl rfl rfl rfl rfl (by first | with_reducible exact Int.toNat_natCast _ | exact zAB (by omega) (by omega) | with_reducible exact zAq | exact zAA _) (by omega) (by omega))) | (refine' z8 3 ?_ ?_; rotate_left; first | exact z9 sg | exact (fun w => zAK sg hb rfl rfl rfl rfl rfl rfl rfl (by first | with_reducible exact Int.toNat_natCast _ | exact zAB (by omega) (by omega) | with_reducible exact zAq | exact zAA _) (by omega) (by omega))) | (refine' z8 4 ?_ ?_; rotate_left; first | exact z9 sg | exact (fun w => zAK sg hb rfl rfl rfl rfl rfl rfl rfl (by first | with_reducible exact Int.toNat_natCast _ | exact zAB (by omega) (by omega) | with_reducible exact zAq | exact zAA _) (by omega) (by omega))) | (refine' z8 5 ?_ ?_; rotate_left; first | exact z9 sg | exact (fun w => zAK sg hb rfl rfl rfl rfl rfl rfl rfl (by first | with_reducible exact Int.toNat_natCast _ | exact zAB (by omega) (by omega) | with_reducible exact zAq | exact zAA _) (by omega) (by omega))) | (refine' z8 8 ?_ ?_; rotate_left; first | exact z9 sg | exact (fun w => zAK sg hb rfl rfl rfl rfl rfl rfl rfl (by first | with_reducible exact Int.toNat_natCast _ | exact zAB (by omega) (by omega) | with_reducible exact zAq | exact zAA _) (by omega) (by omega))) | (refine' z8 9 ?_ ?_; rotate_left; first | exact z9 sg | exact (fun w => zAK sg hb rfl rfl rfl rfl rfl rfl rfl (by first | with_reducible exact Int.toNat_natCast _ | exact zAB (by omega) (by omega) | with_reducible exact zAq | exact zAA _) (by omega) (by omega))) | (refine' z8 10 ?_ ?_; rotate_left; first | exact z9 sg | exact (fun w => zAK sg hb rfl rfl rfl rfl rfl rfl rfl (by first | with_reducible exact Int.toNat_natCast _ | exact zAB (by omega) (by omega) | with_reducible exact zAq | exact zAA _) (by omega) (by omega))) | (refine' z8 13 ?_ ?_; rotate_left; first | exact z9 sg | exact (fun w => zAK sg hb rfl rfl rfl rfl rfl rfl rfl (by first | with_reducible exact Int.toNat_natCast _ | exact zAB (by omega) (by omega) | with_reducible exact zAq | exact zAA _) (by omega) (by omega))) | refine z10 0 ?_ | refine z10 2 ?_ | refine z10 6 ?_ | refine z10 7 ?_ | refine z10 11 ?_ | refine z10 12 ?_ | refine z11 0 2 ?_ ?_ | refine z11 0 11 ?_ ?_ | refine z11 2 11 ?_ ?_ | refine z11 0 6 ?_ ?_ | refine z11 6 11 ?_ ?_ | refine z11 7 11 ?_ ?_ | ((with_reducible apply RA.c3 0 2 11); exact rfl; decide +kernel; exact rfl; exact rfl; exact rfl) | ((with_reducible apply RA.c3 0 6 11); exact rfl; decide +kernel; exact rfl; exact rfl; exact rfl) | (refine y44 sg (hb) ((H.memF hF)) ?_ ?_; (omega)) | (refine' y30 zHT ?_ ?_; rotate_left; exact acct2 (H.memF hF); intro w hcl; replace H := H.ext hcl; clear hcl) | (with_reducible first | apply zB | apply zD | apply zC | apply zE | apply zF | apply zG | apply zO | apply zW) | refine zA ?_ | (refine y23 ?_ ?_; all_goals intro h) | fail)
   all_goals simp only [Bool.not_eq_true', Bool.not_eq_false'] at h
   all_goals first
    | exact zQ rfl H.cl (congrArg Value.bool (noB fun q => by
      have := (zFO.1 (hfacts q).2.2.2) j hjl
      rw [hac2] at this
      cases this.symm.trans h))
    | (refine zJ (j + 1) rfl ⟨zT (by omega), trivial⟩ ⟨hjl, fun i hi => ?_, H.sub (List.sublist_cons_self _ _)⟩ (by omega)
       rcases (show i < j ∨ i = j by omega) with g | rfl
       ·exact hjn i g
       ·rw [hac2]; exact h)
    | fail
  ·obtain rfl : j = (s.aucs.getD k default).bids.length := by have := of_decide_eq_false h; omega
   clear h
   repeat' (first | refine y1 sg ?_ | (with_reducible first | apply zB | apply zD | apply zL) | refine zA ?_ | fail)
   refine zAY (k + 1) rfl ⟨zT (by omega), trivial⟩ ⟨hlt, fun j hj => ?_, H.sub (by repeat (first | exact List.Sublist.refl _ | exact List.nil_sublist _ | apply List.Sublist.cons_cons | apply List.Sublist.cons))⟩ (by omega)
   rcases (show j < k ∨ j = k by omega) with g | rfl
   ·exact hn j g
   ·exact hyes (zFO.2 hjn)
 ·obtain rfl : k = s.aucs.length := by have := of_decide_eq_false h; omega
  repeat' (first | refine y1 sg ?_ | (with_reducible first | apply zB | apply zD | apply zC | apply zF | apply zL | apply zS) | refine zA ?_ | refine y24 ?_ | fail)
  exact zQ rfl H.cl (congrArg Value.bool (zDK.2 ⟨hR, hn⟩).symm)
end Go.Proofs.YtggolnppckpdlaaGreat
