/- Texts of ours, joined: the steps of the proof, or the claim's theorem. -/
import Derived.Test.YtggolnppckpdlaaGreatT36
import Derived.Test.YtggolnppckpdlaaGreatT38
import Derived.Test.YtggolnppckpdlaaGreatT39
import Derived.Test.YtggolnppckpdlaaGreatT49
set_option linter.unusedSimpArgs false
set_option linter.unusedVariables false
namespace Go.Proofs.YtggolnppckpdlaaGreat
open Go Go.Sk Go.RowKit
attribute [local irreducible] Go.Calls
def OwnS (s : Sta) (M : zI) (v : Value) : Prop := ∃ p, v = .agg (s.cells p).toArray ∧ StaM M s p
theorem perm5 {A B C x : Nat × Obj} (M1 M2 M3 M4 : zI) : (A :: B :: C :: (M1 ++ (M2 ++ (M3 ++ (M4 ++ [x]))))).Perm (x :: A :: B :: C :: (M1 ++ (M2 ++ (M3 ++ M4)))) := by
 have := List.perm_append_comm (l₁ := A :: B :: C :: (M1 ++ (M2 ++ (M3 ++ M4)))) (l₂ := [x])
 simpa only [List.cons_append, List.nil_append, List.append_assoc] using this
theorem zQg {l : List Auc} {ad : Nat → Option Addr × Nat} {k : Nat} {a : Option Addr} {c : Nat} : (fun j => if j = k then wr (ael l ad k) 8 [.slice a (l.getD k default).bids.length c] else ael l ad j) = ael l (fun j => if j = k then (a, c) else ad j) := by
 funext j
 by_cases h : j = k
 ·subst h; simp only [if_true]; simp only [ael, if_true]; rfl
 ·simp only [ael, if_neg h]
set_option maxRecDepth 20000 in
set_option maxHeartbeats 8000000 in
theorem c_own {F : zI} (s : Sta) (p : SPt) (hL : Light s) (w0 : World) (hF : Mem w0 F) (hs : StaM F s p) :
  Calls Tryz.prog 22 [.agg (s.cells p).toArray].toArray w0 (zy (OwnS s) w0) := by
 have l1 := hL.ac
 have l2 := hL.ins
 have l3 := hL.rw
 have l4 := hL.od
 have l5 := hL.au
 have l6 := hL.bd
 obtain ⟨ha, hi, hr, ho, hu⟩ := hs
 obtain ⟨hna, hca, ba, offa, csa, Ta, fra, ha⟩ := ha
 obtain ⟨hni, hci, bi, offi, csi, Ti, fri, hi⟩ := hi
 obtain ⟨hnr, hcr, br, offr, csr, Tr, frr, hr⟩ := hr
 obtain ⟨hno, hco, bo, offo, cso, To, fro, ho⟩ := ho
 obtain ⟨⟨hnu, hcu, bu, offu, csu, Tu, fru, hu⟩, hub⟩ := hu
 refine enter [.cell 2 29] Tryz.func22 rfl Tryz.ntmps22 rfl rfl ?_
 have H := zE w0
 repeat' (first | refine y1 sg ?_ | refine y3 ?_ | refine y7 sg H ?_ | (refine y9 H ?_; intro b w H) | (refine y10 sg H ?_; intro b w H) | (refine y11 sg H ?_; intro w H) | (refine zB4 sg H rfl rfl rfl rfl rfl rfl ?_; intro b w H _) | (refine zm sg 2 200 (M := []) (G := _) H rfl rfl rfl rfl rfl rfl rfl rfl rfl rfl rfl (zAL _ _ _) (zC1 ha (fun j _ => rfl) (H.memF hF)) (zAt (fun j _ => rfl)) (zBk (fun j _ => zAd rfl)) (by unfold maxLen; omega) (by omega) ?_; intro a1 c1 M1 w O1 H; simp only [Nat.zero_add, List.nil_append] at O1; replace H := H.perm List.perm_append_comm; simp only [List.cons_append, List.nil_append, List.append_assoc] at H; rw [Nat.zero_add]) | (refine zm sg 3 200 (M := []) (G := _) H rfl rfl rfl rfl rfl rfl rfl rfl rfl rfl rfl (zAL _ _ _) (zC1 hi (fun j _ => rfl) (H.memF hF)) (zAt (fun j _ => rfl)) (zBk (fun j _ => zAd rfl)) (by unfold maxLen; omega) (by omega) ?_; intro a2 c2 M2 w O2 H; simp only [Nat.zero_add, List.nil_append] at O2; replace H := H.perm List.perm_append_comm; simp only [List.cons_append, List.nil_append, List.append_assoc] at H; rw [Nat.zero_add]) | (refine zm sg 4 200 (M := []) (G := _) H rfl rfl rfl rfl rfl rfl rfl rfl rfl rfl rfl (zAL _ _ _) (zC1 hr (fun j _ => rfl) (H.memF hF)) (zAt (fun j _ => rfl)) (zBk (fun j _ => zAd rfl)) (by unfold maxLen; omega) (by omega) ?_; intro a3 c3 M3 w O3 H; simp only [Nat.zero_add, List.nil_append] at O3; replace H := H.perm List.perm_append_comm; simp only [List.cons_append, List.nil_append, List.append_assoc] at H; rw [Nat.zero_add]) | (refine zm sg 6 200 (M := []) (G := _) H rfl rfl rfl rfl rfl rfl rfl rfl rfl rfl rfl (zAL _ _ _) (zC1 ho (fun j _ => rfl) (H.memF hF)) (zAt (fun j _ => rfl)) (zBk (fun j _ => zAd rfl)) (by unfold maxLen; omega) (by omega) ?_; intro a4 c4 M4 w O4 H; simp only [Nat.zero_add, List.nil_append] at O4; replace H := H.perm List.perm_append_comm; simp only [List.cons_append, List.nil_append, List.append_assoc] at H; rw [Nat.zero_add]) | (refine zm sg 9 200 (M := []) (G := _) H rfl rfl rfl rfl rfl rfl rfl rfl rfl rfl rfl (zAL _ _ _) (zC1 hu (fun j _ => rfl) (H.memF hF)) (zAt (fun j _ => rfl)) (zBk (fun j _ => zAd rfl)) (by unfold maxLen; omega) (by omega) ?_; intro a5 c5 M5 w O5 H; simp only [Nat.zero_add, List.nil_append] at O5; replace H := H.perm List.perm_append_comm; simp only [List.cons_append, List.nil_append, List.append_assoc] at H; rw [Nat.zero_add]) | (with_reducible first | apply zB | apply zD | apply zC | apply zF) | refine zA ?_ | fail)
 rcases Nat.eq_zero_or_pos s.aucs.length with h0 | h0
 ·refine zK [(4, 4), (31, 50)] (fun _ : Unit => [(4, .int .i64 0)]) (fun _ w => St w0 (cb _ (s.cells ⟨a1, c1, a2, c2, a3, c3, a4, c4, a5, c5, p.ad⟩) 29 :: cb _ (Sta.zero.cells SPt.zero) 29 :: cb _ (s.cells p) 29 :: (M1 ++ (M2 ++ (M3 ++ (M4 ++ M5))))) w) (fun _ => 0) () ⟨rfl, trivial⟩ H ?_
  clear H
  rintro _ gh w H
  have d1 : decide ((0 : Int) < (s.aucs.length : Int)) = false := decide_eq_false (by omega)
  repeat' (first | refine y1 sg ?_ | refine y3 ?_ | refine y7 sg H ?_ | (refine y11 sg H ?_; intro w H) | (with_reducible first | apply zB | apply zD | apply zC | apply zG | apply zN | apply zW) | refine zA ?_ | refine y24 ?_ | (refine y23 ?_ ?_; all_goals (intro h; try (exfalso; first | ((rw [d1] at h; cases h); done)))) | fail)
  refine zh (vs := [_]) ⟨zAb sg rfl H.mem (by repeat (first | exact List.Mem.head _ | exact List.mem_append_right _ (List.Mem.head _) | refine List.Mem.tail _ ?_)) rfl rfl, trivial⟩ H ⟨⟨a1, c1, a2, c2, a3, c3, a4, c4, a5, c5, p.ad⟩, rfl, ?_⟩
  exact ⟨O1.sl (by intro p hp; simp [hp]) (fun _ _ => rfl) (by omega), O2.sl (by intro p hp; simp [hp]) (fun _ _ => rfl) (by omega), O3.sl (by intro p hp; simp [hp]) (fun _ _ => rfl) (by omega), O4.sl (by intro p hp; simp [hp]) (fun _ _ => rfl) (by omega), O5.sl (by intro p hp; simp [hp]) (fun _ _ => rfl) (by omega), fun j hj => absurd hj (by omega)⟩
 ·obtain ⟨g, cs, rfl, rfl, hcap, hE⟩ := O5.els h0 (fun j _ => rfl)
  replace H := H.perm (perm5 M1 M2 M3 M4)
  refine zK [(4, 4), (31, 50)] (fun y : Nat × (Nat → Option Addr × Nat) × List Value × zI => [(4, .int .i64 (y.1 : Int))]) (fun y w => St w0 (cb g y.2.2.1 81 :: cb _ (s.cells ⟨a1, c1, a2, c2, a3, c3, a4, c4, some ⟨g, 0, none⟩, c5, p.ad⟩) 29 :: cb _ (Sta.zero.cells SPt.zero) 29 :: cb _ (s.cells p) 29 :: ((M1 ++ (M2 ++ (M3 ++ M4))) ++ y.2.2.2)) w ∧ y.1 ≤ s.aucs.length ∧ Els y.2.2.1 9 s.aucs.length (ael s.aucs y.2.1) ∧ ∀ j, j < y.1 → Bids y.2.2.2 (y.2.1 j).1 (y.2.1 j).2 (s.aucs.getD j default).bids) (fun y => s.aucs.length - y.1) (0, p.ad, cs, []) ⟨rfl, trivial⟩ ⟨by rw [List.append_nil]; exact H, Nat.zero_le _, hE, fun j hj => absurd hj (Nat.not_lt_zero j)⟩ ?_
  clear H hE
  rintro ⟨k, ad, cs1, N⟩ gh w ⟨H, hk, hE1, hB⟩
  simp only at H hk hE1 hB ⊢
  by_cases hlt : k < s.aucs.length
  ·have d1 : decide ((k : Int) < (s.aucs.length : Int)) = true := decide_eq_true (by omega)
   have hbn := l6 k hlt
   have hbk := hub k hlt
   obtain ⟨hnb, hcb, bb, offb, csb, Tb, frb, hb⟩ := hbk
   have hek := (hE1 k hlt).1
   repeat' (first | refine y1 sg ?_ | refine y3 ?_ | refine y7 sg H ?_ | (with_reducible first | apply zB | apply zD | apply zC) | refine zA ?_ | fail)
   refine zL rfl (fun h => ?_) (fun h => absurd d1 (by rw [h]; decide))
   clear h
   repeat' (first | refine y1 sg ?_ | refine y3 ?_ | (refine zB4 sg H rfl rfl rfl rfl rfl rfl ?_; intro b w H _) | (refine zm sg 2 200 (M := []) (G := _) H rfl rfl rfl rfl rfl rfl rfl rfl rfl rfl rfl (zAL _ _ _) (zC1 hb (fun j _ => rfl) (H.memF hF)) (zAt (fun j _ => rfl)) (zBk (fun j _ => zAd rfl)) (by unfold maxLen; omega) (by omega) ?_; intro a6 c6 M6 w O6 H; simp only [Nat.zero_add, List.nil_append] at O6; replace H := H.perm List.perm_append_comm; simp only [List.cons_append, List.nil_append, List.append_assoc] at H; rw [Nat.zero_add (s.aucs.getD k default).bids.length]) | (refine OX.storeX sg (v := .slice a6 (s.aucs.getD k default).bids.length c6) (vs := [.slice a6 (s.aucs.getD k default).bids.length c6]) H rfl rfl rfl rfl rfl rfl rfl Up.here (by simp only [List.length_singleton]; omega) (zAd rfl) ?_; intro w H) | (refine zBD zZ 14 (zI0 (x := cb _ (s.cells ⟨a1, c1, a2, c2, a3, c3, a4, c4, some ⟨g, 0, none⟩, c5, p.ad⟩) 29) (y := cb _ (s.cells p) 29) H.mem (by repeat (first | exact List.Mem.head _ | refine List.Mem.tail _ ?_)) (by repeat (first | exact List.Mem.head _ | refine List.Mem.tail _ ?_)) (H.memF hF)) ?_ ?_; exact rfl; intro w hcl; replace H := H.ext hcl; clear hcl) | ((with_reducible apply RH.nil); exact ((zI0 (x := cb _ (s.cells ⟨a1, c1, a2, c2, a3, c3, a4, c4, some ⟨g, 0, none⟩, c5, p.ad⟩) 29) (y := cb _ (s.cells p) 29) H.mem (by repeat (first | exact List.Mem.head _ | refine List.Mem.tail _ ?_)) (by repeat (first | exact List.Mem.head _ | refine List.Mem.tail _ ?_)) (H.memF hF)).sub (by intro p hp; repeat (first | exact hp | apply List.mem_cons_of_mem))); decide +kernel) | (refine' z1 0 (z6 H hF) ?_ ?_; rotate_left; first | exact z4 sg | exact (fun w hM => zJ sg rfl rfl hM (by repeat (first | exact List.Mem.head _ | refine List.Mem.tail _ ?_)) rfl rfl) | exact (fun w hM => zc sg hu rfl rfl rfl rfl rfl rfl rfl (by first | with_reducible exact Int.toNat_natCast _ | exact zS (by omega) (by omega) | with_reducible exact ze | exact zQ _) (by omega) (by omega)) | exact (fun w hM => zc sg (zBw (F := [cb g cs1 81]) hE1 (List.Mem.head _)) rfl rfl rfl rfl rfl rfl rfl (by first | with_reducible exact Int.toNat_natCast _ | exact zS (by omega) (by omega) | with_reducible exact ze | exact zQ _) (by omega) (by omega)) | exact (fun w hM => zn sg hu (hM.sub (by intro p hp; exact List.mem_cons_of_mem _ (List.mem_cons_of_mem _ hp))) rfl rfl rfl rfl hlt rfl rfl)) | (refine' z1 1 (z6 H hF) ?_ ?_; rotate_left; first | exact z4 sg | exact (fun w hM => zJ sg rfl rfl hM (by repeat (first | exact List.Mem.head _ | refine List.Mem.tail _ ?_)) rfl rfl) | exact (fun w hM => zc sg hu rfl rfl rfl rfl rfl rfl rfl (by first | with_reducible exact Int.toNat_natCast _ | exact zS (by omega) (by omega) | with_reducible exact ze | exact zQ _) (by omega) (by omega)) | exact (fun w hM => zc sg (zBw (F := [cb g cs1 81]) hE1 (List.Mem.head _)) rfl rfl rfl rfl rfl rfl rfl (by first | with_reducible exact Int.toNat_natCast _ | exact zS (by omega) (by omega) | with_reducible exact ze | exact zQ _) (by omega) (by omega)) | exact (fun w hM => zn sg hu (hM.sub (by intro p hp; exact List.mem_cons_of_mem _ (List.mem_cons_of_mem _ hp))) rfl rfl rfl rfl hlt rfl rfl)) | (refine' z1 2 (z6 H hF) ?_ ?_; rotate_left; first | exact z4 sg | exact (fun w hM => zJ sg rfl rfl hM (by repeat (first | exact List.Mem.head _ | refine List.Mem.tail _ ?_)) rfl rfl) | exact (fun w hM => zc sg hu rfl rfl rfl rfl rfl rfl rfl (by first | with_reducible exact Int.toNat_natCast _ | exact zS (by omega) (by omega) | with_reducible exact ze | exact zQ _) (by omega) (by omega)) | exact (fun w hM => zc sg (zBw (F := [cb g cs1 81]) hE1 (List.Mem.head _)) rfl rfl rfl rfl rfl rfl rfl (by first | with_reducible exact Int.toNat_natCast _ | exact zS (by omega) (by omega) | with_reducible exact ze | exact zQ _) (by omega) (by omega)) | exact (fun w hM => zn sg hu (hM.sub (by intro p hp; exact List.mem_cons_of_mem _ (List.mem_cons_of_mem _ hp))) rfl rfl rfl rfl hlt rfl rfl)) | (refine' z1 4 (z6 H hF) ?_ ?_; rotate_left; first | exact z4 sg | exact (fun w hM => zJ sg rfl rfl hM (by repeat (first | exact List.Mem.head _ | refine List.Mem.tail _ ?_)) rfl rfl) | exact (fun w hM => zc sg hu rfl rfl rfl rfl rfl rfl rfl (by first | with_reducible exact Int.toNat_natCast _ | exact zS (by omega) (by omega) | with_reducible exact ze | exact zQ _) (by omega) (by omega)) | exact (fun w hM => zc sg (zBw (F := [cb g cs1 81]) hE1 (List.Mem.head _)) rfl rfl rfl rfl rfl rfl rfl (by first | with_reducible exact Int.toNat_natCast _ | exact zS (by omega) (by omega) | with_reducible exact ze | exact zQ _) (by omega) (by omega)) | exact (fun w hM => zn sg hu (hM.sub (by intro p hp; exact List.mem_cons_of_mem _ (List.mem_cons_of_mem _ hp))) rfl rfl rfl rfl hlt rfl rfl)) | (refine' z1 5 (z6 H hF) ?_ ?_; rotate_left; first | exact z4 sg | exact (fun w hM => zJ sg rfl rfl hM (by repeat (first | exact List.Mem.head _ | refine List.Mem.tail _ ?_)) rfl rfl) | exact (fun w hM => zc sg hu rfl rfl rfl rfl rfl rfl rfl (by first | with_reducible exact Int.toNat_natCast _ | exact zS (by omega) (by omega) | with_reducible exact ze | exact zQ _) (by omega) (by omega)) | exact (fun w hM => zc sg (zBw (F := [cb g cs1 81]) hE1 (List.Mem.head _)) rfl rfl rfl rfl rfl rfl rfl (by first | with_reducible exact Int.toNat_natCast _ | exact zS (by omega) (by omega) | with_reducible exact ze | exact zQ _) (by omega) (by omega)) | exact (fun w hM => zn sg hu (hM.sub (by intro p hp; exact List.mem_cons_of_mem _ (List.mem_cons_of_mem _ hp))) rfl rfl rfl rfl hlt rfl rfl)) | (refine' z1 6 (z6 H hF) ?_ ?_; rotate_left; first | exact z4 sg | exact (fun w hM => zJ sg rfl rfl hM (by repeat (first | exact List.Mem.head _ | refine List.Mem.tail _ ?_)) rfl rfl) | exact (fun w hM => zc sg hu rfl rfl rfl rfl rfl rfl rfl (by first | with_reducible exact Int.toNat_natCast _ | exact zS (by omega) (by omega) | with_reducible exact ze | exact zQ _) (by omega) (by omega)) | exact (fun w hM => zc sg (zBw (F := [cb g cs1 81]) hE1 (List.Mem.head _)) rfl rfl rfl rfl rfl rfl rfl (by first | with_reducible exact Int.toNat_natCast _ | exact zS (by omega) (by omega) | with_reducible exact ze | exact zQ _) (by omega) (by omega)) | exact (fun w hM => zn sg hu (hM.sub (by intro p hp; exact List.mem_cons_of_mem _ (List.mem_cons_of_mem _ hp))) rfl rfl rfl rfl hlt rfl rfl)) | (refine' z1 7 (z6 H hF) ?_ ?_; rotate_left; first | exact z4 sg | exact (fun w hM => zJ sg rfl rfl hM (by repeat (first | exact List.Mem.head _ | refine List.Mem.tail _ ?_)) rfl rfl) | exact (fun w hM => zc sg hu rfl rfl rfl rfl rfl rfl rfl (by first | with_reducible exact Int.toNat_natCast _ | exact zS (by omega) (by omega) | with_reducible exact ze | exact zQ _) (by omega) (by omega)) | exact (fun w hM => zc sg (zBw (F := [cb g cs1 81]) hE1 (List.Mem.head _)) rfl rfl rfl rfl rfl rfl rfl (by first | with_reducible exact Int.toNat_natCast _ | exact zS (by omega) (by omega) | with_reducible exact ze | exact zQ _) (by omega) (by omega)) | exact (fun w hM => zn sg hu (hM.sub (by intro p hp; exact List.mem_cons_of_mem _ (List.mem_cons_of_mem _ hp))) rfl rfl rfl rfl hlt rfl rfl)) | (refine' z1 8 (z6 H hF) ?_ ?_; rotate_left; first | exact z4 sg | exact (fun w hM => zJ sg rfl rfl hM (by repeat (first | exact List.Mem.head _ | refine List.Mem.tail _ ?_)) rfl rfl) | exact (fun w hM => zc sg hu rfl rfl rfl rfl rfl rfl rfl (by first | with_reducible exact Int.toNat_natCast _ | exact zS (by omega) (by omega) | with_reducible exact ze | exact zQ _) (by omega) (by omega)) | exact (fun w hM => zc sg (zBw (F := [cb g cs1 81]) hE1 (List.Mem.head _)) rfl rfl rfl rfl rfl rfl rfl (by first | with_reducible exact Int.toNat_natCast _ | exact zS (by omega) (by omega) | with_reducible exact ze | exact zQ _) (by omega) (by omega)) | exact (fun w hM => zn sg hu (hM.sub (by intro p hp; exact List.mem_cons_of_mem _ (List.mem_cons_of_mem _ hp))) rfl rfl rfl rfl hlt rfl rfl)) | (refine' z1 9 (z6 H hF) ?_ ?_; rotate_left; first | exact z4 sg | exact (fun w hM => zJ sg rfl rfl hM (by repeat (first | exact List.Mem.head _ | refine List.Mem.tail _ ?_)) rfl rfl) | exact (fun w hM => zc sg hu rfl rfl rfl rfl rfl rfl rfl (by first | with_reducible exact Int.toNat_natCast _ | exact zS (by omega) (by omega) | with_reducible exact ze | exact zQ _) (by omega) (by omega)) | exact (fun w hM => zc sg (zBw (F := [cb g cs1 81]) hE1 (List.Mem.head _)) rfl rfl rfl rfl rfl rfl rfl (by first | with_reducible exact Int.toNat_natCast _ | exact zS (by omega) (by omega) | with_reducible exact ze | exact zQ _) (by omega) (by omega)) | exact (fun w hM => zn sg hu (hM.sub (by intro p hp; exact List.mem_cons_of_mem _ (List.mem_cons_of_mem _ hp))) rfl rfl rfl rfl hlt rfl rfl)) | (refine' z1 11 (z6 H hF) ?_ ?_; rotate_left; first | exact z4 sg | exact (fun w hM => zJ sg rfl rfl hM (by repeat (first | exact List.Mem.head _ | refine List.Mem.tail _ ?_)) rfl rfl) | exact (fun w hM => zc sg hu rfl rfl rfl rfl rfl rfl rfl (by first | with_reducible exact Int.toNat_natCast _ | exact zS (by omega) (by omega) | with_reducible exact ze | exact zQ _) (by omega) (by omega)) | exact (fun w hM => zc sg (zBw (F := [cb g cs1 81]) hE1 (List.Mem.head _)) rfl rfl rfl rfl rfl rfl rfl (by first | with_reducible exact Int.toNat_natCast _ | exact zS (by omega) (by omega) | with_reducible exact ze | exact zQ _) (by omega) (by omega)) | exact (fun w hM => zn sg hu (hM.sub (by intro p hp; exact List.mem_cons_of_mem _ (List.mem_cons_of_mem _ hp))) rfl rfl rfl rfl hlt rfl rfl)) | (refine' z1 12 (z6 H hF) ?_ ?_; rotate_left; first | exact z4 sg | exact (fun w hM => zJ sg rfl rfl hM (by repeat (first | exact List.Mem.head _ | refine List.Mem.tail _ ?_)) rfl rfl) | exact (fun w hM => zc sg hu rfl rfl rfl rfl rfl rfl rfl (by first | with_reducible exact Int.toNat_natCast _ | exact zS (by omega) (by omega) | with_reducible exact ze | exact zQ _) (by omega) (by omega)) | exact (fun w hM => zc sg (zBw (F := [cb g cs1 81]) hE1 (List.Mem.head _)) rfl rfl rfl rfl rfl rfl rfl (by first | with_reducible exact Int.toNat_natCast _ | exact zS (by omega) (by omega) | with_reducible exact ze | exact zQ _) (by omega) (by omega)) | exact (fun w hM => zn sg hu (hM.sub (by intro p hp; exact List.mem_cons_of_mem _ (List.mem_cons_of_mem _ hp))) rfl rfl rfl rfl hlt rfl rfl)) | refine z12 3 (z6 H hF) ?_ | refine z12 10 (z6 H hF) ?_ | refine z12 13 (z6 H hF) ?_ | (with_reducible first | apply zB | apply zD | apply zC | apply zF | apply zH) | refine zA ?_ | fail)
   have hE2 := zOu (vs := [.slice a6 (s.aucs.getD k default).bids.length c6]) (f := 8) hE1 hlt (Nat.le_refl 9)
   rw [zQg] at hE2
   refine zM (k + 1, (fun j => if j = k then (a6, c6) else ad j), wr cs1 (k * 9 + 8) [.slice a6 (s.aucs.getD k default).bids.length c6], N ++ M6) rfl ⟨zV (by omega), trivial⟩ ⟨by simpa only [Nat.zero_add, List.append_assoc] using H, hlt, hE2, fun j hj => ?_⟩ (by simp only; omega)
   by_cases hjk : j = k
   ·subst hjk
    simp only [if_true]
    exact O6.sl (List.subset_append_right _ _) (fun _ _ => rfl) (by omega)
   ·simp only [if_neg hjk]
    exact SlA.mono (hB j (by simp only at hj; omega)) (List.subset_append_left _ _)
  ·obtain rfl : k = s.aucs.length := by omega
   have d1 : decide ((s.aucs.length : Int) < (s.aucs.length : Int)) = false := decide_eq_false (by omega)
   repeat' (first | refine y1 sg ?_ | refine y3 ?_ | refine y7 sg H ?_ | (refine y11 sg H ?_; intro w H) | (with_reducible first | apply zB | apply zD | apply zC | apply zG | apply zN | apply zW) | refine zA ?_ | refine y24 ?_ | (refine y23 ?_ ?_; all_goals (intro h; try (exfalso; first | ((rw [d1] at h; cases h); done)))) | fail)
   refine zh (vs := [_]) ⟨zAb sg rfl H.mem (by repeat (first | exact List.Mem.head _ | exact List.mem_append_right _ (List.Mem.head _) | refine List.Mem.tail _ ?_)) rfl rfl, trivial⟩ H ⟨⟨a1, c1, a2, c2, a3, c3, a4, c4, some ⟨g, 0, none⟩, c5, ad⟩, rfl, ?_⟩
   exact ⟨O1.sl (by intro p hp; simp [hp]) (fun _ _ => rfl) (by omega), O2.sl (by intro p hp; simp [hp]) (fun _ _ => rfl) (by omega), O3.sl (by intro p hp; simp [hp]) (fun _ _ => rfl) (by omega), O4.sl (by intro p hp; simp [hp]) (fun _ _ => rfl) (by omega), ⟨hcap, hcu, g, 0, cs1, _, (0, 0), zBw hE1 (List.Mem.head _)⟩, fun j hj => SlA.mono (hB j hj) (by intro p hp; simp [hp])⟩
end Go.Proofs.YtggolnppckpdlaaGreat
set_option linter.unusedSimpArgs false
set_option linter.unusedVariables false
namespace Go.Proofs.YtggolnppckpdlaaGreat
open Go Go.Sk Go.RowKit
attribute [local irreducible] Go.Calls
theorem zLV {w0 w w1 : World} {L N M : zI} (H : St w0 (L ++ N) w) (hcl : Cl w0 w1) (hL : Mem w1 L) (hM : Mem w M) (hg : ∀ p ∈ M, w1.heap.size ≤ p.1) (hn : (M.map (·.1)).Nodup) : ∃ N', St w0 (L ++ N') w ∧ N ⊆ N' ∧ M ⊆ N' := by
 obtain ⟨N1, H, hs⟩ := H.join hcl hM hg hn
 rw [List.append_assoc] at H
 refine ⟨N ++ N1, H, List.subset_append_left _ _, fun p hp => ?_⟩
 have h1 := hs hp
 rw [List.append_assoc] at h1
 rcases List.mem_append.1 h1 with h | h
 ·have := zBX (hL p h)
  have := hg p hp
  omega
 ·exact h
def OwnV (x : Vws) (M : zI) (v : Value) : Prop := ∃ p, v = .agg (x.cells p).toArray ∧ VwM M x p
def OwnL (T : TypeId) (size n : Nat) (el : Nat → List Value) (M : zI) (v : Value) : Prop := ∃ a c, v = .slice a n c ∧ Go.Sk.Own M T size a n c ((List.range n).flatMap el)
set_option maxRecDepth 20000 in
set_option maxHeartbeats 8000000 in
theorem c_ownV {F : zI} (v : Vws) (p : VPt) (hl : v.opn.length + v.lots.length + v.poss.length + v.lins.length < 600) (w0 : World) (hF : Mem w0 F) (hs : VwM F v p) :
  Calls Tryz.prog 23 [.agg (v.cells p).toArray].toArray w0 (zy (OwnV v) w0) := by
 obtain ⟨ho, hl', hp, hn⟩ := hs
 obtain ⟨hno, hco, bo, offo, cso, To, fro, ho⟩ := ho
 obtain ⟨hnl, hcl', bl, offl, csl, Tl, frl, hlt⟩ := hl'
 obtain ⟨hnp, hcp, bp, offp, csp, Tp, frp, hp⟩ := hp
 obtain ⟨hnn, hcn, bn, offn, csn, Tn, frn, hn⟩ := hn
 refine enter [.cell 2 35] Tryz.func23 rfl Tryz.ntmps23 rfl rfl ?_
 have H := zE w0
 repeat' (first | refine y3 ?_ | (refine y9 H ?_; intro b w H) | (refine y10 sg H ?_; intro b w H) | (refine zBD zZ 18 (memT (x := cb _ (v.cells p) 35) H.mem (by repeat (first | exact List.Mem.head _ | refine List.Mem.tail _ ?_))) ?_ ?_; exact rfl; intro w hcl; replace H := H.ext hcl; clear hcl) | (refine' z1 1 (z7 H) ?_ ?_; rotate_left; first | exact z4 sg | exact (fun w hM => zJ sg rfl rfl hM (by repeat (first | exact List.Mem.head _ | refine List.Mem.tail _ ?_)) rfl rfl)) | (refine' z1 2 (z7 H) ?_ ?_; rotate_left; first | exact z4 sg | exact (fun w hM => zJ sg rfl rfl hM (by repeat (first | exact List.Mem.head _ | refine List.Mem.tail _ ?_)) rfl rfl)) | (refine' z1 5 (z7 H) ?_ ?_; rotate_left; first | exact z4 sg | exact (fun w hM => zJ sg rfl rfl hM (by repeat (first | exact List.Mem.head _ | refine List.Mem.tail _ ?_)) rfl rfl)) | (refine' z1 6 (z7 H) ?_ ?_; rotate_left; first | exact z4 sg | exact (fun w hM => zJ sg rfl rfl hM (by repeat (first | exact List.Mem.head _ | refine List.Mem.tail _ ?_)) rfl rfl)) | (refine' z1 9 (z7 H) ?_ ?_; rotate_left; first | exact z4 sg | exact (fun w hM => zJ sg rfl rfl hM (by repeat (first | exact List.Mem.head _ | refine List.Mem.tail _ ?_)) rfl rfl)) | (refine' z1 10 (z7 H) ?_ ?_; rotate_left; first | exact z4 sg | exact (fun w hM => zJ sg rfl rfl hM (by repeat (first | exact List.Mem.head _ | refine List.Mem.tail _ ?_)) rfl rfl)) | (refine' z1 13 (z7 H) ?_ ?_; rotate_left; first | exact z4 sg | exact (fun w hM => zJ sg rfl rfl hM (by repeat (first | exact List.Mem.head _ | refine List.Mem.tail _ ?_)) rfl rfl)) | (refine' z1 14 (z7 H) ?_ ?_; rotate_left; first | exact z4 sg | exact (fun w hM => zJ sg rfl rfl hM (by repeat (first | exact List.Mem.head _ | refine List.Mem.tail _ ?_)) rfl rfl)) | (with_reducible first | apply zB | apply zD | apply zC) | refine zA ?_ | fail)
 have hFw := H.memF hF
 have hws := H.cl
 have hwL := H.mem
 refine RH.knowThen [(3, 3), (6, 7), (10, 11), (14, 15), (18, 18)] [⟨0, 3, [], .nul⟩, ⟨3, 6, [3], .rel (OwnL 83 6 v.opn.length (opl v.opn)) w.heap.size⟩, ⟨4, 7, [], .nul⟩, ⟨7, 10, [7], .rel (OwnL 85 4 v.lots.length (ltl v.lots)) w.heap.size⟩, ⟨8, 11, [], .nul⟩, ⟨11, 14, [11], .rel (OwnL 87 6 v.poss.length (psl v.poss)) w.heap.size⟩, ⟨12, 15, [], .nul⟩, ⟨15, 18, [15], .rel (OwnL 52 5 v.lins.length (lnl v.lins)) w.heap.size⟩] [⟨0, 3, [], .val undef⟩, ⟨3, 6, [3], .val undef⟩, ⟨4, 7, [], .val undef⟩, ⟨7, 10, [7], .val undef⟩, ⟨8, 11, [], .val undef⟩, ⟨11, 14, [11], .val undef⟩, ⟨12, 15, [], .val undef⟩, ⟨15, 18, [15], .val undef⟩] [6, 10, 14, 18] 2 (memT (x := cb _ (v.cells p) 35) H.mem (by repeat (first | exact List.Mem.head _ | refine List.Mem.tail _ ?_))) rfl (by decide +kernel) (KSt.cons rfl ?_ (KSt.cons rfl ?_ (KSt.cons rfl ?_ (KSt.cons rfl ?_ (KSt.cons rfl ?_ (KSt.cons rfl ?_ (KSt.cons rfl ?_ (KSt.cons rfl ?_ (KSt.nil))))))))) ?_
 ·intro g w1 hcl1 hM0
  dsimp only [Know]
  have H := zE w1
  repeat' (first | refine y3 ?_ | (refine zB4 sg H rfl rfl rfl rfl rfl rfl ?_; intro b w H _) | (with_reducible first | apply zB | apply zD) | fail)
  exact ⟨_, rfl, H.cl, ⟨_, rfl⟩⟩
 ·intro g w1 hcl1 hM0
  dsimp only [Know]
  rintro _ ⟨b1, rfl⟩
  have H := zE w1
  repeat' (first | refine y3 ?_ | (refine zm sg 6 200 (M := []) (G := _) H rfl rfl rfl rfl rfl rfl rfl rfl rfl rfl rfl (zAL _ _ _) (zC1 ho (fun j _ => rfl) (hFw.ext hcl1)) (zAt (fun j _ => rfl)) (zBk (fun j _ => zAd rfl)) (by unfold maxLen; omega) (by omega) ?_; intro a1 c1 M1 w O1 H; simp only [Nat.zero_add, List.nil_append] at O1; simp only [List.append_nil] at H; rw [Nat.zero_add v.opn.length]) | (with_reducible first | apply zB | apply zD) | fail)
  exact ⟨_, rfl, H.cl, by first | exact KP.rel_of hcl1 H (by assumption) | exact KP.rel_of hcl1 H ⟨_, _, rfl, by assumption⟩⟩
 ·intro g w1 hcl1 hM0
  dsimp only [Know]
  have H := zE w1
  repeat' (first | refine y3 ?_ | (refine zB4 sg H rfl rfl rfl rfl rfl rfl ?_; intro b w H _) | (with_reducible first | apply zB | apply zD) | fail)
  exact ⟨_, rfl, H.cl, ⟨_, rfl⟩⟩
 ·intro g w1 hcl1 hM0
  dsimp only [Know]
  rintro _ ⟨b1, rfl⟩
  have H := zE w1
  repeat' (first | refine y3 ?_ | (refine zm sg 4 200 (M := []) (G := _) H rfl rfl rfl rfl rfl rfl rfl rfl rfl rfl rfl (zAL _ _ _) (zC1 hlt (fun j _ => rfl) (hFw.ext hcl1)) (zAt (fun j _ => rfl)) (zBk (fun j _ => zAd rfl)) (by unfold maxLen; omega) (by omega) ?_; intro a1 c1 M1 w O1 H; simp only [Nat.zero_add, List.nil_append] at O1; simp only [List.append_nil] at H; rw [Nat.zero_add v.lots.length]) | (with_reducible first | apply zB | apply zD) | fail)
  exact ⟨_, rfl, H.cl, by first | exact KP.rel_of hcl1 H (by assumption) | exact KP.rel_of hcl1 H ⟨_, _, rfl, by assumption⟩⟩
 ·intro g w1 hcl1 hM0
  dsimp only [Know]
  have H := zE w1
  repeat' (first | refine y3 ?_ | (refine zB4 sg H rfl rfl rfl rfl rfl rfl ?_; intro b w H _) | (with_reducible first | apply zB | apply zD) | fail)
  exact ⟨_, rfl, H.cl, ⟨_, rfl⟩⟩
 ·intro g w1 hcl1 hM0
  dsimp only [Know]
  rintro _ ⟨b1, rfl⟩
  have H := zE w1
  repeat' (first | refine y3 ?_ | (refine zm sg 6 200 (M := []) (G := _) H rfl rfl rfl rfl rfl rfl rfl rfl rfl rfl rfl (zAL _ _ _) (zC1 hp (fun j _ => rfl) (hFw.ext hcl1)) (zAt (fun j _ => rfl)) (zBk (fun j _ => zAd rfl)) (by unfold maxLen; omega) (by omega) ?_; intro a1 c1 M1 w O1 H; simp only [Nat.zero_add, List.nil_append] at O1; simp only [List.append_nil] at H; rw [Nat.zero_add v.poss.length]) | (with_reducible first | apply zB | apply zD) | fail)
  exact ⟨_, rfl, H.cl, by first | exact KP.rel_of hcl1 H (by assumption) | exact KP.rel_of hcl1 H ⟨_, _, rfl, by assumption⟩⟩
 ·intro g w1 hcl1 hM0
  dsimp only [Know]
  have H := zE w1
  repeat' (first | refine y3 ?_ | (refine zB4 sg H rfl rfl rfl rfl rfl rfl ?_; intro b w H _) | (with_reducible first | apply zB | apply zD) | fail)
  exact ⟨_, rfl, H.cl, ⟨_, rfl⟩⟩
 ·intro g w1 hcl1 hM0
  dsimp only [Know]
  rintro _ ⟨b1, rfl⟩
  have H := zE w1
  repeat' (first | refine y3 ?_ | (refine zm sg 5 200 (M := []) (G := _) H rfl rfl rfl rfl rfl rfl rfl rfl rfl rfl rfl (zAL _ _ _) (zC1 hn (fun j _ => rfl) (hFw.ext hcl1)) (zAt (fun j _ => rfl)) (zBk (fun j _ => zAd rfl)) (by unfold maxLen; omega) (by omega) ?_; intro a1 c1 M1 w O1 H; simp only [Nat.zero_add, List.nil_append] at O1; simp only [List.append_nil] at H; rw [Nat.zero_add v.lins.length]) | (with_reducible first | apply zB | apply zD) | fail)
  exact ⟨_, rfl, H.cl, by first | exact KP.rel_of hcl1 H (by assumption) | exact KP.rel_of hcl1 H ⟨_, _, rfl, by assumption⟩⟩
 intro g w mm hcl
 dsimp only [Know]
 rintro v1 ⟨M1, hR1, hM1, hg1, hn1⟩ v2 ⟨M2, hR2, hM2, hg2, hn2⟩ v3 ⟨M3, hR3, hM3, hg3, hn3⟩ v4 ⟨M4, hR4, hM4, hg4, hn4⟩
 have hcl0 := hcl
 replace H := H.ext hcl
 clear hcl
 obtain ⟨a1, c1, rfl, O1⟩ := hR1
 obtain ⟨a2, c2, rfl, O2⟩ := hR2
 obtain ⟨a3, c3, rfl, O3⟩ := hR3
 obtain ⟨a4, c4, rfl, O4⟩ := hR4
 rw [← List.append_nil (_ :: _ :: [])] at H
 obtain ⟨N1, H, _, s1⟩ := zLV H hws hwL hM1 hg1 hn1
 obtain ⟨N2, H, t1, s2⟩ := zLV H hws hwL hM2 hg2 hn2
 obtain ⟨N3, H, t2, s3⟩ := zLV H hws hwL hM3 hg3 hn3
 obtain ⟨N4, H, t3, s4⟩ := zLV H hws hwL hM4 hg4 hn4
 simp only [List.cons_append, List.nil_append] at H
 repeat' (first | refine y3 ?_ | (refine y11 sg H ?_; intro w H) | ((with_reducible apply RH.nil); exact ((memT (x := cb _ (v.cells p) 35) H.mem (by repeat (first | exact List.Mem.head _ | refine List.Mem.tail _ ?_))).sub (by intro p hp; repeat (first | exact hp | apply List.mem_cons_of_mem))); decide +kernel) | (refine' z1 16 (z7 H) ?_ ?_; rotate_left; first | exact z4 sg | exact (fun w hM => fail)) | refine z12 17 (z7 H) ?_ | (with_reducible first | apply zB | apply zD | apply zG) | fail)
 have S1 := O1.sl (s1.trans (t1.trans (t2.trans t3))) (fun _ _ => rfl) (show v.opn.length ≤ 140737488355328 by omega)
 have S2 := O2.sl (s2.trans (t2.trans t3)) (fun _ _ => rfl) (show v.lots.length ≤ 140737488355328 by omega)
 have S3 := O3.sl (s3.trans t3) (fun _ _ => rfl) (show v.poss.length ≤ 140737488355328 by omega)
 have S4 := O4.sl s4 (fun _ _ => rfl) (show v.lins.length ≤ 140737488355328 by omega)
 exact zh (vs := [_]) ⟨zAb sg rfl H.mem (by repeat (first | exact List.Mem.head _ | exact List.mem_append_right _ (List.Mem.head _) | refine List.Mem.tail _ ?_)) rfl rfl, trivial⟩ (H.sub (List.Sublist.cons _ (List.Sublist.cons _ (List.Sublist.refl _)))) ⟨⟨a1, c1, a2, c2, a3, c3, a4, c4⟩, rfl, ⟨S1, S2, S3, S4⟩⟩
end Go.Proofs.YtggolnppckpdlaaGreat
set_option linter.unusedSimpArgs false
set_option linter.unusedVariables false
namespace Go.Proofs.YtggolnppckpdlaaGreat
open Go Go.Sk Go.RowKit
attribute [local irreducible] Go.Calls
theorem zDv {x : Bool} {p : Prop} (h : x = true ↔ p) (hn : ¬ x = true) : ¬ p := fun hp => hn (h.2 hp)
set_option maxHeartbeats 2000000 in
theorem zKX {a a' : Option Addr} {cap cap' : Nat} (l l' : List Row4) {F : zI} (w0 : World) (hF : Mem w0 F) (hs : SlA F 4 a l.length cap (rwl l)) (hs' : SlA F 4 a' l'.length cap' (rwl l')) :
  Calls Tryz.prog 70 [.slice a l.length cap, .slice a' l'.length cap'].toArray w0 (Ret (.bool (zAy l l')) w0) := by
 obtain ⟨hn, hc, b, off, cs, T, fr, hs⟩ := hs
 obtain ⟨hn', hc', b', off', cs', T', fr', hs'⟩ := hs'
 refine enter [.tmp 4] Tryz.func70 rfl Tryz.ntmps70 rfl rfl ?_
 have H := zE w0
 repeat' (first | refine y1 sg ?_ | (with_reducible first | apply zB | apply zD | apply zC) | refine zA ?_ | fail)
 refine zL rfl (fun h => ?_) (fun h => ?_)
 ·repeat' (first | refine y1 sg ?_ | (with_reducible first | apply zB | apply zD | apply zC | apply zG | apply zP) | refine zA ?_ | fail)
  exact zO rfl H.cl (by
   have : l ≠ l' := fun he => by subst he; simp at h
   rw [zAp this])
 ·have hlen : l.length = l'.length := by simp at h; omega
  repeat' (first | refine y1 sg ?_ | (with_reducible first | apply zB | apply zD | apply zC | apply zF | apply zH) | refine zA ?_ | fail)
  refine zK [(4, 5), (11, 25)] (fun k : Nat => [(5, .int .i64 (k : Int))]) (fun k w => k ≤ l.length ∧ (∀ j, j < k → l.getD j default = l'.getD j default) ∧ St w0 [] w) (fun k => l.length - k) 0 ⟨rfl, trivial⟩ ⟨Nat.zero_le _, fun j hj => absurd hj (Nat.not_lt_zero j), H⟩ ?_
  clear H
  rintro k g w ⟨hk, hpk, H⟩
  repeat' (first | refine y1 sg ?_ | (with_reducible first | apply zB | apply zD | apply zC) | refine zA ?_ | fail)
  refine zL rfl (fun h => ?_) (fun h => ?_)
  ·have hlt : k < l.length := by simpa using h
   repeat' (first | refine y2 sg ?_ | refine y4 ?_ | (refine y41 sg (hs) ?_ ?_ ?_; (omega); (omega)) | (refine y41 sg (hs') ?_ ?_ ?_; (omega); (omega)) | (refine y43 sg (hs) ((H.memF hF)) ?_ ?_; (omega)) | (refine y43 sg (hs') ((H.memF hF)) ?_ ?_; (omega)) | (refine zAD rfl rfl (zA2 sg (cs := (rw_ l k).cells) (ds := (rw_ l' k).cells) zOM zON rfl rfl rfl rfl rfl rfl rfl) ?_) | (with_reducible apply zb; intro w hcl; replace H := H.ext hcl; clear hcl) | (with_reducible first | apply zD | apply zC | apply zF | apply zH) | refine y20 zZ ?_ | fail)
   refine zL rfl (fun h2 => ?_) (fun h2 => ?_)
   ·rw [Bool.not_eq_true'] at h2
    have hne := zDv (zFz (rw_ l k) (rw_ l' k)) (by intro h3; exact absurd (h2.symm.trans h3) (by simp))
    repeat' (first | refine y1 sg ?_ | (with_reducible first | apply zB | apply zD | apply zC | apply zG | apply zP | apply za) | refine zA ?_ | fail)
    exact zO rfl H.cl (by
     have : l ≠ l' := fun he => by subst he; exact hne rfl
     rw [zAp this])
   ·rw [Bool.not_eq_false'] at h2
    have heq : rw_ l k = rw_ l' k := (zFz _ _).1 h2
    repeat' (first | refine y1 sg ?_ | (with_reducible first | apply zB | apply zD | apply zH) | refine zA ?_ | fail)
    refine zM (k + 1) rfl ⟨zV (by omega), trivial⟩ ⟨hlt, fun j hj => ?_, H⟩ (by omega)
    by_cases hj' : j = k
    ·rw [hj']; exact heq
    ·exact hpk j (by omega)
  ·repeat' (first | refine y1 sg ?_ | (with_reducible first | apply zB | apply zD | apply zC | apply zG | apply zN | apply zW) | refine zA ?_ | refine y24 ?_ | fail)
   have hkn : k = l.length := by simp at h; omega
   subst hkn
   exact zO rfl H.cl (by
    have : l = l' := zAv hlen hpk
    rw [zq.2 this])
set_option maxHeartbeats 2000000 in
theorem zKY {a a' : Option Addr} {cap cap' : Nat} (l l' : List Odr) {F : zI} (w0 : World) (hF : Mem w0 F) (hs : SlA F 6 a l.length cap (odl l)) (hs' : SlA F 6 a' l'.length cap' (odl l')) :
  Calls Tryz.prog 71 [.slice a l.length cap, .slice a' l'.length cap'].toArray w0 (Ret (.bool (zAy l l')) w0) := by
 obtain ⟨hn, hc, b, off, cs, T, fr, hs⟩ := hs
 obtain ⟨hn', hc', b', off', cs', T', fr', hs'⟩ := hs'
 refine enter [.tmp 4] Tryz.func71 rfl Tryz.ntmps71 rfl rfl ?_
 have H := zE w0
 repeat' (first | refine y1 sg ?_ | (with_reducible first | apply zB | apply zD | apply zC) | refine zA ?_ | fail)
 refine zL rfl (fun h => ?_) (fun h => ?_)
 ·repeat' (first | refine y1 sg ?_ | (with_reducible first | apply zB | apply zD | apply zC | apply zG | apply zP) | refine zA ?_ | fail)
  exact zO rfl H.cl (by
   have : l ≠ l' := fun he => by subst he; simp at h
   rw [zAp this])
 ·have hlen : l.length = l'.length := by simp at h; omega
  repeat' (first | refine y1 sg ?_ | (with_reducible first | apply zB | apply zD | apply zC | apply zF | apply zH) | refine zA ?_ | fail)
  refine zK [(4, 5), (11, 25)] (fun k : Nat => [(5, .int .i64 (k : Int))]) (fun k w => k ≤ l.length ∧ (∀ j, j < k → l.getD j default = l'.getD j default) ∧ St w0 [] w) (fun k => l.length - k) 0 ⟨rfl, trivial⟩ ⟨Nat.zero_le _, fun j hj => absurd hj (Nat.not_lt_zero j), H⟩ ?_
  clear H
  rintro k g w ⟨hk, hpk, H⟩
  repeat' (first | refine y1 sg ?_ | (with_reducible first | apply zB | apply zD | apply zC) | refine zA ?_ | fail)
  refine zL rfl (fun h => ?_) (fun h => ?_)
  ·have hlt : k < l.length := by simpa using h
   repeat' (first | refine y2 sg ?_ | refine y4 ?_ | (refine y41 sg (hs) ?_ ?_ ?_; (omega); (omega)) | (refine y41 sg (hs') ?_ ?_ ?_; (omega); (omega)) | (refine y43 sg (hs) ((H.memF hF)) ?_ ?_; (omega)) | (refine y43 sg (hs') ((H.memF hF)) ?_ ?_; (omega)) | (refine zAD rfl rfl (zA2 sg (cs := (od_ l k).cells) (ds := (od_ l' k).cells) zOO zOP rfl rfl rfl rfl rfl rfl rfl) ?_) | (with_reducible apply zb; intro w hcl; replace H := H.ext hcl; clear hcl) | (with_reducible first | apply zD | apply zC | apply zF | apply zH) | refine y20 zZ ?_ | fail)
   refine zL rfl (fun h2 => ?_) (fun h2 => ?_)
   ·rw [Bool.not_eq_true'] at h2
    have hne := zDv (zF0 (od_ l k) (od_ l' k)) (by intro h3; exact absurd (h2.symm.trans h3) (by simp))
    repeat' (first | refine y1 sg ?_ | (with_reducible first | apply zB | apply zD | apply zC | apply zG | apply zP | apply za) | refine zA ?_ | fail)
    exact zO rfl H.cl (by
     have : l ≠ l' := fun he => by subst he; exact hne rfl
     rw [zAp this])
   ·rw [Bool.not_eq_false'] at h2
    have heq : od_ l k = od_ l' k := (zF0 _ _).1 h2
    repeat' (first | refine y1 sg ?_ | (with_reducible first | apply zB | apply zD | apply zH) | refine zA ?_ | fail)
    refine zM (k + 1) rfl ⟨zV (by omega), trivial⟩ ⟨hlt, fun j hj => ?_, H⟩ (by omega)
    by_cases hj' : j = k
    ·rw [hj']; exact heq
    ·exact hpk j (by omega)
  ·repeat' (first | refine y1 sg ?_ | (with_reducible first | apply zB | apply zD | apply zC | apply zG | apply zN | apply zW) | refine zA ?_ | refine y24 ?_ | fail)
   have hkn : k = l.length := by simp at h; omega
   subst hkn
   exact zO rfl H.cl (by
    have : l = l' := zAv hlen hpk
    rw [zq.2 this])
set_option maxHeartbeats 2000000 in
theorem zKZ {a a' : Option Addr} {cap cap' : Nat} (l l' : List Opn) {F : zI} (w0 : World) (hF : Mem w0 F) (hs : SlA F 6 a l.length cap (opl l)) (hs' : SlA F 6 a' l'.length cap' (opl l')) :
  Calls Tryz.prog 73 [.slice a l.length cap, .slice a' l'.length cap'].toArray w0 (Ret (.bool (zAy l l')) w0) := by
 obtain ⟨hn, hc, b, off, cs, T, fr, hs⟩ := hs
 obtain ⟨hn', hc', b', off', cs', T', fr', hs'⟩ := hs'
 refine enter [.tmp 4] Tryz.func73 rfl Tryz.ntmps73 rfl rfl ?_
 have H := zE w0
 repeat' (first | refine y1 sg ?_ | (with_reducible first | apply zB | apply zD | apply zC) | refine zA ?_ | fail)
 refine zL rfl (fun h => ?_) (fun h => ?_)
 ·repeat' (first | refine y1 sg ?_ | (with_reducible first | apply zB | apply zD | apply zC | apply zG | apply zP) | refine zA ?_ | fail)
  exact zO rfl H.cl (by
   have : l ≠ l' := fun he => by subst he; simp at h
   rw [zAp this])
 ·have hlen : l.length = l'.length := by simp at h; omega
  repeat' (first | refine y1 sg ?_ | (with_reducible first | apply zB | apply zD | apply zC | apply zF | apply zH) | refine zA ?_ | fail)
  refine zK [(4, 5), (11, 25)] (fun k : Nat => [(5, .int .i64 (k : Int))]) (fun k w => k ≤ l.length ∧ (∀ j, j < k → l.getD j default = l'.getD j default) ∧ St w0 [] w) (fun k => l.length - k) 0 ⟨rfl, trivial⟩ ⟨Nat.zero_le _, fun j hj => absurd hj (Nat.not_lt_zero j), H⟩ ?_
  clear H
  rintro k g w ⟨hk, hpk, H⟩
  repeat' (first | refine y1 sg ?_ | (with_reducible first | apply zB | apply zD | apply zC) | refine zA ?_ | fail)
  refine zL rfl (fun h => ?_) (fun h => ?_)
  ·have hlt : k < l.length := by simpa using h
   repeat' (first | refine y2 sg ?_ | refine y4 ?_ | (refine y41 sg (hs) ?_ ?_ ?_; (omega); (omega)) | (refine y41 sg (hs') ?_ ?_ ?_; (omega); (omega)) | (refine y43 sg (hs) ((H.memF hF)) ?_ ?_; (omega)) | (refine y43 sg (hs') ((H.memF hF)) ?_ ?_; (omega)) | (refine zAD rfl rfl (zA2 sg (cs := (op_ l k).cells) (ds := (op_ l' k).cells) zOQ zOR rfl rfl rfl rfl rfl rfl rfl) ?_) | (with_reducible apply zb; intro w hcl; replace H := H.ext hcl; clear hcl) | (with_reducible first | apply zD | apply zC | apply zF | apply zH) | refine y20 zZ ?_ | fail)
   refine zL rfl (fun h2 => ?_) (fun h2 => ?_)
   ·rw [Bool.not_eq_true'] at h2
    have hne := zDv (zF1 (op_ l k) (op_ l' k)) (by intro h3; exact absurd (h2.symm.trans h3) (by simp))
    repeat' (first | refine y1 sg ?_ | (with_reducible first | apply zB | apply zD | apply zC | apply zG | apply zP | apply za) | refine zA ?_ | fail)
    exact zO rfl H.cl (by
     have : l ≠ l' := fun he => by subst he; exact hne rfl
     rw [zAp this])
   ·rw [Bool.not_eq_false'] at h2
    have heq : op_ l k = op_ l' k := (zF1 _ _).1 h2
    repeat' (first | refine y1 sg ?_ | (with_reducible first | apply zB | apply zD | apply zH) | refine zA ?_ | fail)
    refine zM (k + 1) rfl ⟨zV (by omega), trivial⟩ ⟨hlt, fun j hj => ?_, H⟩ (by omega)
    by_cases hj' : j = k
    ·rw [hj']; exact heq
    ·exact hpk j (by omega)
  ·repeat' (first | refine y1 sg ?_ | (with_reducible first | apply zB | apply zD | apply zC | apply zG | apply zN | apply zW) | refine zA ?_ | refine y24 ?_ | fail)
   have hkn : k = l.length := by simp at h; omega
   subst hkn
   exact zO rfl H.cl (by
    have : l = l' := zAv hlen hpk
    rw [zq.2 this])
set_option maxHeartbeats 2000000 in
theorem zKa {a a' : Option Addr} {cap cap' : Nat} (l l' : List Lt) {F : zI} (w0 : World) (hF : Mem w0 F) (hs : SlA F 4 a l.length cap (ltl l)) (hs' : SlA F 4 a' l'.length cap' (ltl l')) :
  Calls Tryz.prog 74 [.slice a l.length cap, .slice a' l'.length cap'].toArray w0 (Ret (.bool (zAy l l')) w0) := by
 obtain ⟨hn, hc, b, off, cs, T, fr, hs⟩ := hs
 obtain ⟨hn', hc', b', off', cs', T', fr', hs'⟩ := hs'
 refine enter [.tmp 4] Tryz.func74 rfl Tryz.ntmps74 rfl rfl ?_
 have H := zE w0
 repeat' (first | refine y1 sg ?_ | (with_reducible first | apply zB | apply zD | apply zC) | refine zA ?_ | fail)
 refine zL rfl (fun h => ?_) (fun h => ?_)
 ·repeat' (first | refine y1 sg ?_ | (with_reducible first | apply zB | apply zD | apply zC | apply zG | apply zP) | refine zA ?_ | fail)
  exact zO rfl H.cl (by
   have : l ≠ l' := fun he => by subst he; simp at h
   rw [zAp this])
 ·have hlen : l.length = l'.length := by simp at h; omega
  repeat' (first | refine y1 sg ?_ | (with_reducible first | apply zB | apply zD | apply zC | apply zF | apply zH) | refine zA ?_ | fail)
  refine zK [(4, 5), (11, 25)] (fun k : Nat => [(5, .int .i64 (k : Int))]) (fun k w => k ≤ l.length ∧ (∀ j, j < k → l.getD j default = l'.getD j default) ∧ St w0 [] w) (fun k => l.length - k) 0 ⟨rfl, trivial⟩ ⟨Nat.zero_le _, fun j hj => absurd hj (Nat.not_lt_zero j), H⟩ ?_
  clear H
  rintro k g w ⟨hk, hpk, H⟩
  repeat' (first | refine y1 sg ?_ | (with_reducible first | apply zB | apply zD | apply zC) | refine zA ?_ | fail)
  refine zL rfl (fun h => ?_) (fun h => ?_)
  ·have hlt : k < l.length := by simpa using h
   repeat' (first | refine y2 sg ?_ | refine y4 ?_ | (refine y41 sg (hs) ?_ ?_ ?_; (omega); (omega)) | (refine y41 sg (hs') ?_ ?_ ?_; (omega); (omega)) | (refine y43 sg (hs) ((H.memF hF)) ?_ ?_; (omega)) | (refine y43 sg (hs') ((H.memF hF)) ?_ ?_; (omega)) | (refine zAD rfl rfl (zA2 sg (cs := (lt_ l k).cells) (ds := (lt_ l' k).cells) zOS zOT rfl rfl rfl rfl rfl rfl rfl) ?_) | (with_reducible apply zb; intro w hcl; replace H := H.ext hcl; clear hcl) | (with_reducible first | apply zD | apply zC | apply zF | apply zH) | refine y20 zZ ?_ | fail)
   refine zL rfl (fun h2 => ?_) (fun h2 => ?_)
   ·rw [Bool.not_eq_true'] at h2
    have hne := zDv (zF2 (lt_ l k) (lt_ l' k)) (by intro h3; exact absurd (h2.symm.trans h3) (by simp))
    repeat' (first | refine y1 sg ?_ | (with_reducible first | apply zB | apply zD | apply zC | apply zG | apply zP | apply za) | refine zA ?_ | fail)
    exact zO rfl H.cl (by
     have : l ≠ l' := fun he => by subst he; exact hne rfl
     rw [zAp this])
   ·rw [Bool.not_eq_false'] at h2
    have heq : lt_ l k = lt_ l' k := (zF2 _ _).1 h2
    repeat' (first | refine y1 sg ?_ | (with_reducible first | apply zB | apply zD | apply zH) | refine zA ?_ | fail)
    refine zM (k + 1) rfl ⟨zV (by omega), trivial⟩ ⟨hlt, fun j hj => ?_, H⟩ (by omega)
    by_cases hj' : j = k
    ·rw [hj']; exact heq
    ·exact hpk j (by omega)
  ·repeat' (first | refine y1 sg ?_ | (with_reducible first | apply zB | apply zD | apply zC | apply zG | apply zN | apply zW) | refine zA ?_ | refine y24 ?_ | fail)
   have hkn : k = l.length := by simp at h; omega
   subst hkn
   exact zO rfl H.cl (by
    have : l = l' := zAv hlen hpk
    rw [zq.2 this])
set_option maxHeartbeats 2000000 in
theorem zKb {a a' : Option Addr} {cap cap' : Nat} (l l' : List Psn) {F : zI} (w0 : World) (hF : Mem w0 F) (hs : SlA F 6 a l.length cap (psl l)) (hs' : SlA F 6 a' l'.length cap' (psl l')) :
  Calls Tryz.prog 75 [.slice a l.length cap, .slice a' l'.length cap'].toArray w0 (Ret (.bool (zAy l l')) w0) := by
 obtain ⟨hn, hc, b, off, cs, T, fr, hs⟩ := hs
 obtain ⟨hn', hc', b', off', cs', T', fr', hs'⟩ := hs'
 refine enter [.tmp 4] Tryz.func75 rfl Tryz.ntmps75 rfl rfl ?_
 have H := zE w0
 repeat' (first | refine y1 sg ?_ | (with_reducible first | apply zB | apply zD | apply zC) | refine zA ?_ | fail)
 refine zL rfl (fun h => ?_) (fun h => ?_)
 ·repeat' (first | refine y1 sg ?_ | (with_reducible first | apply zB | apply zD | apply zC | apply zG | apply zP) | refine zA ?_ | fail)
  exact zO rfl H.cl (by
   have : l ≠ l' := fun he => by subst he; simp at h
   rw [zAp this])
 ·have hlen : l.length = l'.length := by simp at h; omega
  repeat' (first | refine y1 sg ?_ | (with_reducible first | apply zB | apply zD | apply zC | apply zF | apply zH) | refine zA ?_ | fail)
  refine zK [(4, 5), (11, 25)] (fun k : Nat => [(5, .int .i64 (k : Int))]) (fun k w => k ≤ l.length ∧ (∀ j, j < k → l.getD j default = l'.getD j default) ∧ St w0 [] w) (fun k => l.length - k) 0 ⟨rfl, trivial⟩ ⟨Nat.zero_le _, fun j hj => absurd hj (Nat.not_lt_zero j), H⟩ ?_
  clear H
  rintro k g w ⟨hk, hpk, H⟩
  repeat' (first | refine y1 sg ?_ | (with_reducible first | apply zB | apply zD | apply zC) | refine zA ?_ | fail)
  refine zL rfl (fun h => ?_) (fun h => ?_)
  ·have hlt : k < l.length := by simpa using h
   repeat' (first | refine y2 sg ?_ | refine y4 ?_ | (refine y41 sg (hs) ?_ ?_ ?_; (omega); (omega)) | (refine y41 sg (hs') ?_ ?_ ?_; (omega); (omega)) | (refine y43 sg (hs) ((H.memF hF)) ?_ ?_; (omega)) | (refine y43 sg (hs') ((H.memF hF)) ?_ ?_; (omega)) | (refine zAD rfl rfl (zA2 sg (cs := (ps_ l k).cells) (ds := (ps_ l' k).cells) zOU zOV rfl rfl rfl rfl rfl rfl rfl) ?_) | (with_reducible apply zb; intro w hcl; replace H := H.ext hcl; clear hcl) | (with_reducible first | apply zD | apply zC | apply zF | apply zH) | refine y20 zZ ?_ | fail)
   refine zL rfl (fun h2 => ?_) (fun h2 => ?_)
   ·rw [Bool.not_eq_true'] at h2
    have hne := zDv (zF3 (ps_ l k) (ps_ l' k)) (by intro h3; exact absurd (h2.symm.trans h3) (by simp))
    repeat' (first | refine y1 sg ?_ | (with_reducible first | apply zB | apply zD | apply zC | apply zG | apply zP | apply za) | refine zA ?_ | fail)
    exact zO rfl H.cl (by
     have : l ≠ l' := fun he => by subst he; exact hne rfl
     rw [zAp this])
   ·rw [Bool.not_eq_false'] at h2
    have heq : ps_ l k = ps_ l' k := (zF3 _ _).1 h2
    repeat' (first | refine y1 sg ?_ | (with_reducible first | apply zB | apply zD | apply zH) | refine zA ?_ | fail)
    refine zM (k + 1) rfl ⟨zV (by omega), trivial⟩ ⟨hlt, fun j hj => ?_, H⟩ (by omega)
    by_cases hj' : j = k
    ·rw [hj']; exact heq
    ·exact hpk j (by omega)
  ·repeat' (first | refine y1 sg ?_ | (with_reducible first | apply zB | apply zD | apply zC | apply zG | apply zN | apply zW) | refine zA ?_ | refine y24 ?_ | fail)
   have hkn : k = l.length := by simp at h; omega
   subst hkn
   exact zO rfl H.cl (by
    have : l = l' := zAv hlen hpk
    rw [zq.2 this])
set_option maxHeartbeats 2000000 in
theorem zKc {a a' : Option Addr} {cap cap' : Nat} (l l' : List Ln) {F : zI} (w0 : World) (hF : Mem w0 F) (hs : SlA F 5 a l.length cap (lnl l)) (hs' : SlA F 5 a' l'.length cap' (lnl l')) :
  Calls Tryz.prog 76 [.slice a l.length cap, .slice a' l'.length cap'].toArray w0 (Ret (.bool (zAy l l')) w0) := by
 obtain ⟨hn, hc, b, off, cs, T, fr, hs⟩ := hs
 obtain ⟨hn', hc', b', off', cs', T', fr', hs'⟩ := hs'
 refine enter [.tmp 4] Tryz.func76 rfl Tryz.ntmps76 rfl rfl ?_
 have H := zE w0
 repeat' (first | refine y1 sg ?_ | (with_reducible first | apply zB | apply zD | apply zC) | refine zA ?_ | fail)
 refine zL rfl (fun h => ?_) (fun h => ?_)
 ·repeat' (first | refine y1 sg ?_ | (with_reducible first | apply zB | apply zD | apply zC | apply zG | apply zP) | refine zA ?_ | fail)
  exact zO rfl H.cl (by
   have : l ≠ l' := fun he => by subst he; simp at h
   rw [zAp this])
 ·have hlen : l.length = l'.length := by simp at h; omega
  repeat' (first | refine y1 sg ?_ | (with_reducible first | apply zB | apply zD | apply zC | apply zF | apply zH) | refine zA ?_ | fail)
  refine zK [(4, 5), (11, 25)] (fun k : Nat => [(5, .int .i64 (k : Int))]) (fun k w => k ≤ l.length ∧ (∀ j, j < k → l.getD j default = l'.getD j default) ∧ St w0 [] w) (fun k => l.length - k) 0 ⟨rfl, trivial⟩ ⟨Nat.zero_le _, fun j hj => absurd hj (Nat.not_lt_zero j), H⟩ ?_
  clear H
  rintro k g w ⟨hk, hpk, H⟩
  repeat' (first | refine y1 sg ?_ | (with_reducible first | apply zB | apply zD | apply zC) | refine zA ?_ | fail)
  refine zL rfl (fun h => ?_) (fun h => ?_)
  ·have hlt : k < l.length := by simpa using h
   repeat' (first | refine y2 sg ?_ | refine y4 ?_ | (refine y41 sg (hs) ?_ ?_ ?_; (omega); (omega)) | (refine y41 sg (hs') ?_ ?_ ?_; (omega); (omega)) | (refine y43 sg (hs) ((H.memF hF)) ?_ ?_; (omega)) | (refine y43 sg (hs') ((H.memF hF)) ?_ ?_; (omega)) | (refine zAD rfl rfl (zA2 sg (cs := (ln_ l k).cells) (ds := (ln_ l' k).cells) zOW zOX rfl rfl rfl rfl rfl rfl rfl) ?_) | (with_reducible apply zb; intro w hcl; replace H := H.ext hcl; clear hcl) | (with_reducible first | apply zD | apply zC | apply zF | apply zH) | refine y20 zZ ?_ | fail)
   refine zL rfl (fun h2 => ?_) (fun h2 => ?_)
   ·rw [Bool.not_eq_true'] at h2
    have hne := zDv (zF4 (ln_ l k) (ln_ l' k)) (by intro h3; exact absurd (h2.symm.trans h3) (by simp))
    repeat' (first | refine y1 sg ?_ | (with_reducible first | apply zB | apply zD | apply zC | apply zG | apply zP | apply za) | refine zA ?_ | fail)
    exact zO rfl H.cl (by
     have : l ≠ l' := fun he => by subst he; exact hne rfl
     rw [zAp this])
   ·rw [Bool.not_eq_false'] at h2
    have heq : ln_ l k = ln_ l' k := (zF4 _ _).1 h2
    repeat' (first | refine y1 sg ?_ | (with_reducible first | apply zB | apply zD | apply zH) | refine zA ?_ | fail)
    refine zM (k + 1) rfl ⟨zV (by omega), trivial⟩ ⟨hlt, fun j hj => ?_, H⟩ (by omega)
    by_cases hj' : j = k
    ·rw [hj']; exact heq
    ·exact hpk j (by omega)
  ·repeat' (first | refine y1 sg ?_ | (with_reducible first | apply zB | apply zD | apply zC | apply zG | apply zN | apply zW) | refine zA ?_ | refine y24 ?_ | fail)
   have hkn : k = l.length := by simp at h; omega
   subst hkn
   exact zO rfl H.cl (by
    have : l = l' := zAv hlen hpk
    rw [zq.2 this])
end Go.Proofs.YtggolnppckpdlaaGreat
