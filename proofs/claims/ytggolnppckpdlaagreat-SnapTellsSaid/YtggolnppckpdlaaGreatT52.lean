/- Texts of ours, joined: the steps of the proof, or the claim's theorem. -/
import Derived.Test.YtggolnppckpdlaaGreatT50
import Derived.Test.YtggolnppckpdlaaGreatT51
set_option linter.unusedSimpArgs false
set_option linter.unusedVariables false
namespace Go.Proofs.YtggolnppckpdlaaGreat
open Go Go.Sk Go.RowKit
attribute [local irreducible] Go.Calls
set_option maxRecDepth 20000 in
set_option maxHeartbeats 16000000 in
theorem zQh {F : zI} (s : Sta) (p : SPt) (v : Vws) (q : VPt) (seq : Int) (ha : StaA s) (hc : VwA v) (w0 : World) (hF : Mem w0 F) (hs : StaM F s p) (hv : VwM F v q) :
  Calls Tryz.prog 4 [.agg (s.cells p).toArray, .agg (v.cells q).toArray, .int .i64 seq].toArray w0 (Ret (.bool true) w0) := by
 have cws := fun w hM => zQO (F := F) s p ha.acN ha.insN w hM hs
 have cbv := fun w hM => c_bulk (F := F) v q w hM hv
 obtain ⟨ws, hws⟩ : ∃ x, zGj s = x := ⟨_, rfl⟩
 obtain ⟨bv, hbv⟩ : ∃ x, min 3000 ((v.opn.length + v.lots.length + v.poss.length + v.lins.length : Nat) : Int) = x := ⟨_, rfl⟩
 rw [hws] at cws
 rw [hbv] at cbv
 by_cases hall : ws < 1500 ∧ bv < 600
 ·obtain ⟨l1, l3⟩ := hall
  have d1 : decide (ws ≥ 1500) = false := decide_eq_false (by omega)
  have d3 : decide (bv ≥ 600) = false := decide_eq_false (by omega)
  have L1 := zIw (hws ▸ l1)
  have n3 : v.opn.length + v.lots.length + v.poss.length + v.lins.length < 600 := by omega
  have WA := zMN L1 ha hc n3
  have CA : ∀ {G : zI} {px : SPt} {qy : VPt} (w : World), Mem w G → StaM G s px → VwM G v qy → Calls Tryz.prog 10 [.agg (s.cells px).toArray, .agg (v.cells qy).toArray].toArray w (Ret (.tuple #[.string (bytesOf (zAj s v).1), .int .i64 (zAj s v).2]) w) := fun w hM h1 h2 => zH7 s _ v _ WA w hM h1 h2
  have CB : ∀ {G : zI} {px : SPt} {qy : VPt} (w : World), Mem w G → StaM G s px → VwM G v qy → Calls Tryz.prog 11 [.int .i64 seq, .agg (s.cells px).toArray, .agg (v.cells qy).toArray].toArray w (Ret (.tuple #[.string (bytesOf (zCh seq s v).1), .int .i64 (zCh seq s v).2]) w) := fun w hM h1 h2 => zN9 seq s _ v _ WA w hM h1 h2
  have RA' := fun w hM => zLU (F := F) s p v q WA w hM hs hv
  have RB' := fun w hM => zQf (F := F) seq s p v q WA w hM hs hv
  have SS : ∀ {G : zI} {px : SPt} (w : World), Mem w (G ++ F) → StaM G s px → Calls Tryz.prog 26 [.agg (s.cells px).toArray, .agg (s.cells p).toArray].toArray w (Ret (.bool true) w) := fun {G px} w hM h1 => by
   have := zMW s s px p w hM (h1.mono (List.subset_append_left _ _)) (hs.mono (List.subset_append_right _ _))
   rw [zq.2 rfl] at this
   exact this
  have SV : ∀ {G : zI} {qy : VPt} (w : World), Mem w (G ++ F) → VwM G v qy → Calls Tryz.prog 27 [.agg (v.cells qy).toArray, .agg (v.cells q).toArray].toArray w (Ret (.bool true) w) := fun {G qy} w hM h1 => by
   have := zOp v v qy q w hM (h1.mono (List.subset_append_left _ _)) (hv.mono (List.subset_append_right _ _))
   rw [zq.2 rfl] at this
   exact this
  have CO := fun w hM => c_own (F := F) s p L1 w hM hs
  have CV := fun w hM => c_ownV (F := F) v q n3 w hM hv
  generalize zAj s v = X at CA RA'
  generalize zCh seq s v = Y at CB RB'
  obtain ⟨A, e⟩ := X
  obtain ⟨B, f⟩ := Y
  simp only at CA CB RA' RB'
  have hA : ((bytesOf A).toList == (bytesOf A).toList) = true := by simp
  have hB : ((bytesOf B).toList == (bytesOf B).toList) = true := by simp
  have he : (e == e) = true := by simp
  have hf : (f == f) = true := by simp
  clear hws hbv WA L1 hs hv ha hc
  refine enter [.tmp 6] Tryz.func4 rfl Tryz.ntmps4 rfl rfl ?_
  have H := zE w0
  repeat' (first | refine y1 sg ?_ | refine y3 ?_ | refine y5 sg ?_ | refine y7 sg H ?_ | (refine y9 H ?_; intro b w H) | (refine y10 sg H ?_; intro b w H) | (refine y11 sg H ?_; intro w H) | (refine' y30 ent8 ?_ ?_; rotate_left; exact zLP _; intro w hcl; replace H := H.ext hcl; clear hcl) | (refine' y30 ent20 ?_ ?_; rotate_left; exact cws _ (H.memF hF); intro w hcl; replace H := H.ext hcl; clear hcl) | (refine' y30 ent21 ?_ ?_; rotate_left; exact cbv _ (H.memF hF); intro w hcl; replace H := H.ext hcl; clear hcl) | (refine' y32 ent22 ?_ ?_; rotate_left; exact CO _ (H.memF hF); intro vs Ms w hR hS; replace H := H.addR hS; clear hS; (try simp only [List.cons_append, List.nil_append] at H); obtain ⟨ps, rfl, sm⟩ := hR) | (refine' y32 ent23 ?_ ?_; rotate_left; exact CV _ (H.memF hF); intro vv Mv w hR hS; replace H := H.addR hS; clear hS; (try simp only [List.cons_append, List.nil_append] at H); obtain ⟨qv, rfl, vm⟩ := hR) | (refine' y30 zIU ?_ ?_; rotate_left; exact CA _ H.mem (sm.mono (by intro p hp; simp [hp])) (vm.mono (by intro p hp; simp [hp])); intro w hcl; replace H := H.ext hcl; clear hcl) | (refine' y30 ent11 ?_ ?_; rotate_left; exact CB _ H.mem (sm.mono (by intro p hp; simp [hp])) (vm.mono (by intro p hp; simp [hp])); intro w hcl; replace H := H.ext hcl; clear hcl) | (refine' y30 zMm ?_ ?_; rotate_left; exact RA' _ (H.memF hF); intro w hcl; replace H := H.ext hcl; clear hcl) | (refine' y30 ent25 ?_ ?_; rotate_left; exact RB' _ (H.memF hF); intro w hcl; replace H := H.ext hcl; clear hcl) | (refine' y30 ent26 ?_ ?_; rotate_left; exact SS _ (H.all hF) (sm.mono (by intro p hp; simp [hp])); intro w hcl; replace H := H.ext hcl; clear hcl) | (refine' y30 ent27 ?_ ?_; rotate_left; exact SV _ (H.all hF) (vm.mono (by intro p hp; simp [hp])); intro w hcl; replace H := H.ext hcl; clear hcl) | (refine zBD zZ 8 (zI0 (x := cb _ (v.cells q) 35) (y := cb _ (s.cells p) 29) H.mem (by repeat (first | exact List.Mem.head _ | refine List.Mem.tail _ ?_)) (by repeat (first | exact List.Mem.head _ | refine List.Mem.tail _ ?_)) (H.memF hF)) ?_ ?_; exact rfl; intro w hcl; replace H := H.ext hcl; clear hcl) | ((with_reducible apply RH.nil); exact ((zI0 (x := cb _ (v.cells q) 35) (y := cb _ (s.cells p) 29) H.mem (by repeat (first | exact List.Mem.head _ | refine List.Mem.tail _ ?_)) (by repeat (first | exact List.Mem.head _ | refine List.Mem.tail _ ?_)) (H.memF hF)).sub (by intro p hp; repeat (first | exact hp | apply List.mem_cons_of_mem))); decide +kernel) | (refine' z1 0 (z6 H hF) ?_ ?_; rotate_left; first | exact z4 sg | exact (fun w hM => zJ sg rfl rfl hM (by repeat (first | exact List.Mem.head _ | refine List.Mem.tail _ ?_)) rfl rfl)) | (refine' z1 2 (z6 H hF) ?_ ?_; rotate_left; first | exact z4 sg | exact (fun w hM => zJ sg rfl rfl hM (by repeat (first | exact List.Mem.head _ | refine List.Mem.tail _ ?_)) rfl rfl)) | refine z12 1 (z6 H hF) ?_ | refine z12 3 (z6 H hF) ?_ | refine z12 4 (z6 H hF) ?_ | refine z12 5 (z6 H hF) ?_ | refine z12 6 (z6 H hF) ?_ | refine z12 7 (z6 H hF) ?_ | refine z15 1 4 (z6 H hF) ?_ ?_ | refine z15 1 5 (z6 H hF) ?_ ?_ | refine z15 3 4 (z6 H hF) ?_ ?_ | refine z15 3 5 (z6 H hF) ?_ ?_ | refine z15 4 5 (z6 H hF) ?_ ?_ | ((with_reducible apply RH.c3 1 4 5); exact ((zI0 (x := cb _ (v.cells q) 35) (y := cb _ (s.cells p) 29) H.mem (by repeat (first | exact List.Mem.head _ | refine List.Mem.tail _ ?_)) (by repeat (first | exact List.Mem.head _ | refine List.Mem.tail _ ?_)) (H.memF hF)).sub (by intro p hp; repeat (first | exact hp | apply List.mem_cons_of_mem))); exact rfl; decide +kernel; exact rfl; exact rfl; exact rfl) | ((with_reducible apply RH.c3 3 4 5); exact ((zI0 (x := cb _ (v.cells q) 35) (y := cb _ (s.cells p) 29) H.mem (by repeat (first | exact List.Mem.head _ | refine List.Mem.tail _ ?_)) (by repeat (first | exact List.Mem.head _ | refine List.Mem.tail _ ?_)) (H.memF hF)).sub (by intro p hp; repeat (first | exact hp | apply List.mem_cons_of_mem))); exact rfl; decide +kernel; exact rfl; exact rfl; exact rfl) | refine y13 ?_ | (refine y17 ?_ ?_; all_goals (intro h; try (exfalso; first | ((rw [d1] at h; cases h); done) | ((rw [d3] at h; cases h); done) | ((rw [hA] at h; cases h); done) | ((rw [hB] at h; cases h); done) | ((rw [he] at h; cases h); done) | ((rw [hf] at h; cases h); done)))) | (with_reducible first | apply zB | apply zD | apply zC | apply zG | apply zH) | refine zA ?_ | (refine y23 ?_ ?_; all_goals (intro h; try (exfalso; first | ((rw [d1] at h; cases h); done) | ((rw [d3] at h; cases h); done) | ((rw [hA] at h; cases h); done) | ((rw [hB] at h; cases h); done) | ((rw [he] at h; cases h); done) | ((rw [hf] at h; cases h); done)))) | fail)
  all_goals first
   | exact zO rfl H.cl rfl
   | trace_state
 ·refine enter [.tmp 6] Tryz.func4 rfl Tryz.ntmps4 rfl rfl ?_
  have H := zE w0
  repeat' (first | refine y1 sg ?_ | refine y3 ?_ | refine y5 sg ?_ | refine y7 sg H ?_ | (refine y9 H ?_; intro b w H) | (refine' y30 ent8 ?_ ?_; rotate_left; exact zLP _; intro w hcl; replace H := H.ext hcl; clear hcl) | (refine' y30 ent20 ?_ ?_; rotate_left; exact cws _ (H.memF hF); intro w hcl; replace H := H.ext hcl; clear hcl) | (refine' y30 ent21 ?_ ?_; rotate_left; exact cbv _ (H.memF hF); intro w hcl; replace H := H.ext hcl; clear hcl) | refine y13 ?_ | refine y14 ?_ | (refine y17 ?_ ?_; all_goals (intro h; try (exfalso; first | ((simp only [decide_eq_true_eq, decide_eq_false_iff_not, ge_iff_le, gt_iff_lt] at *; omega); done)))) | (with_reducible first | apply zB | apply zD | apply zC | apply zG | apply zP) | refine zA ?_ | refine y21 ?_ | (refine y23 ?_ ?_; all_goals (intro h; try (exfalso; first | ((simp only [decide_eq_true_eq, decide_eq_false_iff_not, ge_iff_le, gt_iff_lt] at *; omega); done)))) | fail)
  all_goals first
   | exact zO rfl H.cl rfl
   | trace_state
end Go.Proofs.YtggolnppckpdlaaGreat
