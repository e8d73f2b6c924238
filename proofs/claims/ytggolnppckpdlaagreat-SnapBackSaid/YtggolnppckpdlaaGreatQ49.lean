/- Texts of ours, joined: the steps of the proof, or the claim's theorem. -/
import Derived.Test.YtggolnppckpdlaaGreatQ48
set_option linter.unusedSimpArgs false
set_option linter.unusedVariables false
namespace Go.Proofs.YtggolnppckpdlaaGreat
open Go Go.Sk Go.RowKit
attribute [local irreducible] Go.Calls
set_option maxRecDepth 20000 in
set_option maxHeartbeats 16000000 in
theorem c_Back {F : Frag} (s : Sta) (p : SPt) (t : Sta) (pt : SPt) (v : Vws) (q : VPt) (u : Vws) (qu : VPt) (data : ByteArray) (hd : data.size ≤ 140737488355328) (ha : StaA s) (hb : StaA t) (hc : VwA v) (he : VwA u) (w0 : World) (hF : Mem w0 F) (hs : StaM F s p) (ht : StaM F t pt) (hv : VwM F v q) (hu : VwM F u qu) :
    Calls Tryz.prog 6 [.agg (s.cells p).toArray, .agg (t.cells pt).toArray, .agg (v.cells q).toArray, .agg (u.cells qu).toArray, .string data].toArray w0 (Ret (.bool true) w0) := by
  have cws := fun w hM => c_weigh (F := F) s p ha.acN ha.insN w hM hs
  have cwt := fun w hM => c_weigh (F := F) t pt hb.acN hb.insN w hM ht
  have cbv := fun w hM => c_bulk (F := F) v q w hM hv
  have cbu := fun w hM => c_bulk (F := F) u qu w hM hu
  obtain ⟨ws, hws⟩ : ∃ x, weighF s = x := ⟨_, rfl⟩
  obtain ⟨wt, hwt⟩ : ∃ x, weighF t = x := ⟨_, rfl⟩
  obtain ⟨bv, hbv⟩ : ∃ x, min 3000 ((v.opn.length + v.lots.length + v.poss.length + v.lins.length : Nat) : Int) = x := ⟨_, rfl⟩
  obtain ⟨bu, hbu⟩ : ∃ x, min 3000 ((u.opn.length + u.lots.length + u.poss.length + u.lins.length : Nat) : Int) = x := ⟨_, rfl⟩
  rw [hws] at cws
  rw [hwt] at cwt
  rw [hbv] at cbv
  rw [hbu] at cbu
  by_cases hall : ws < 1500 ∧ wt < 1500 ∧ bv < 600 ∧ bu < 600 ∧ (data.size : Int) ≤ 5000
  · obtain ⟨l1, l2, l3, l4, l5⟩ := hall
    have d1 : decide (ws ≥ 1500) = false := decide_eq_false (by omega)
    have d2 : decide (wt ≥ 1500) = false := decide_eq_false (by omega)
    have d3 : decide (bv ≥ 600) = false := decide_eq_false (by omega)
    have d4 : decide (bu ≥ 600) = false := decide_eq_false (by omega)
    have d5 : decide ((data.size : Int) > 5000) = false := decide_eq_false (by omega)
    have L1 := weigh_light (hws ▸ l1)
    have L2 := weigh_light (hwt ▸ l2)
    have n3 : v.opn.length + v.lots.length + v.poss.length + v.lins.length < 600 := by omega
    have n4 : u.opn.length + u.lots.length + u.poss.length + u.lins.length < 600 := by omega
    have WA := snW_light L1 ha hc n3
    have WB := snW_light L2 hb he n4
    have CA := fun w hM => c_Body (F := F) s p v q WA w hM hs hv
    have CB := fun w hM => c_Body (F := F) t pt u qu WB w hM ht hu
    have M1 := fun w hM => c_MaySt (F := F) s p WA.sw w hM hs
    have M2 := fun w hM => c_vMay (F := F) v q WA.lw w hM hv
    have S1 := fun w hM => c_stSame (F := F) s t p pt w hM hs ht
    have S2 := fun w hM => c_vwSame (F := F) v u q qu w hM hv hu
    obtain ⟨⟨A, e⟩, hA⟩ : ∃ x, bodyF s v = x := ⟨_, rfl⟩
    obtain ⟨⟨B, f⟩, hB⟩ : ∃ x, bodyF t u = x := ⟨_, rfl⟩
    obtain ⟨b1, hb1⟩ : ∃ x, mayS s = x := ⟨_, rfl⟩
    obtain ⟨b2, hb2⟩ : ∃ x, viewsF v = x := ⟨_, rfl⟩
    obtain ⟨s1, hs1⟩ : ∃ x, isEq s t = x := ⟨_, rfl⟩
    obtain ⟨s2, hs2⟩ : ∃ x, isEq v u = x := ⟨_, rfl⟩
    obtain ⟨k, hk⟩ : ∃ x, ((bytesOf A).toList == (bytesOf B).toList) = x := ⟨_, rfl⟩
    rw [hA] at CA
    rw [hB] at CB
    rw [hb1] at M1
    rw [hb2] at M2
    rw [hs1] at S1
    rw [hs2] at S2
    simp only at CA CB
    have hcase : (e = 0 ∧ b1 = true ∧ b2 = true ∧ (∀ w, Mem w F → Calls Tryz.prog 15 [.string (bytesOf A), .agg (s.cells p).toArray, .agg (v.cells q).toArray].toArray w (Ret (.bool true) w)) ∧ ((f = 0 ∧ ((s1 = true ∧ s2 = true ∧ k = true) ∨ (s1 = true ∧ s2 = false ∧ k = false) ∨ (s1 = false ∧ k = false))) ∨ f = 4)) ∨ (e = 4 ∧ b1 = true ∧ b2 = false) ∨ (e = 4 ∧ b1 = false) := by
      by_cases h1 : mayS s = true
      · by_cases h2 : viewsF v = true
        · rw [bodyF_yes L1 n3 h1 h2] at hA
          obtain ⟨rfl, rfl⟩ := Prod.mk.inj hA
          have hbt := bodyL_byt (WA.sb h1) WA.vb
          have hst : strL (bytesOf (bodyL s v)) = bodyL s v := strL_bytesOf hbt
          have hsm := body_small h1 h2 L1.rw (by omega) (by omega)
          refine .inl ⟨rfl, hb1.symm.trans h1, hb2.symm.trans h2, fun w hM => ?_, ?_⟩
          · have := c_is (bytesOf (bodyL s v)) (by rw [bytesOf_len]; omega) s p v q (by rw [hst]; exact rdw_light L1 ha hc h1 h2) w hM hs hv
            rw [hst, isR_iff.2 ⟨by omega, RdOk.of h1 h2 hc.kd⟩] at this
            exact this
          · by_cases h3 : mayS t = true ∧ viewsF u = true
            · obtain ⟨h3, h4⟩ := h3
              rw [bodyF_yes L2 n4 h3 h4] at hB
              obtain ⟨rfl, rfl⟩ := Prod.mk.inj hB
              have hbu := bodyL_byt (WB.sb h3) WB.vb
              have hk2 : k = decide (bodyL s v = bodyL t u) := by rw [← hk, str_eq, hst, strL_bytesOf hbu]
              have hi := body_inj h1 h2 hc.kd h3 h4 he.kd
              refine .inl ⟨rfl, ?_⟩
              by_cases e1 : s = t
              · have x1 : s1 = true := by rw [← hs1]; exact isEq_iff.2 e1
                by_cases e2 : v = u
                · exact .inl ⟨x1, by rw [← hs2]; exact isEq_iff.2 e2, by rw [hk2]; exact decide_eq_true (hi.2 ⟨e1, e2⟩)⟩
                · exact .inr (.inl ⟨x1, by rw [← hs2]; cases hq : isEq v u with
                  | true => exact absurd (isEq_iff.1 hq) e2
                  | false => rfl, by rw [hk2]; exact decide_eq_false fun h => e2 (hi.1 h).2⟩)
              · exact .inr (.inr ⟨by rw [← hs1]; cases hq : isEq s t with
                | true => exact absurd (isEq_iff.1 hq) e1
                | false => rfl, by rw [hk2]; exact decide_eq_false fun h => e1 (hi.1 h).1⟩)
            · have h5 : mayS t = false ∨ viewsF u = false := by
                cases hq : mayS t with
                | false => exact .inl rfl
                | true =>
                  cases hq2 : viewsF u with
                  | false => exact .inr rfl
                  | true => exact absurd ⟨hq, hq2⟩ h3
              rw [bodyF_no L2 n4 h5] at hB
              exact .inr (Prod.mk.inj hB).2.symm
        · have h2 : viewsF v = false := by simpa using h2
          rw [bodyF_no L1 n3 (.inr h2)] at hA
          exact .inr (.inl ⟨(Prod.mk.inj hA).2.symm, hb1.symm.trans h1, hb2.symm.trans h2⟩)
      · have h1 : mayS s = false := by simpa using h1
        rw [bodyF_no L1 n3 (.inl h1)] at hA
        exact .inr (.inr ⟨(Prod.mk.inj hA).2.symm, hb1.symm.trans h1⟩)
    have hRW : RdW (strL data) := RdW.short (by rw [strL_len]; omega)
    have hdl : (strL data).length ≤ 5000 := by rw [strL_len]; omega
    have hCX : ∀ {G : Frag} {x : Sta} {y : Vws} {px : SPt} {qy : VPt}, RdOk (strL data) x y → ∀ w, Mem w G → StaM G x px → VwM G y qy → Calls Tryz.prog 10 [.agg (x.cells px).toArray, .agg (y.cells qy).toArray].toArray w (Ret (.tuple #[.string data, .int .i64 0]) w) := by
      intro G x y px qy h w hM hx hy
      have := c_Body x px y qy (h.snW (by omega)) w hM hx hy
      rw [mayrd h (by omega)] at this
      have e : bytesOf (strL data) = data := strL_inj (strL_bytesOf (byt_str _))
      rw [e] at this
      exact this
    have hMX : ∀ {G : Frag} {x : Sta} {y : Vws} {px : SPt}, RdOk (strL data) x y → ∀ w, Mem w G → StaM G x px → Calls Tryz.prog 32 [.agg (x.cells px).toArray].toArray w (Ret (.bool true) w) := by
      intro G x y px h w hM hx
      have := c_MaySt x px (h.snW (by omega)).sw w hM hx
      rw [h.2.1] at this
      exact this
    have hVX : ∀ {G : Frag} {x : Sta} {y : Vws} {qy : VPt}, RdOk (strL data) x y → ∀ w, Mem w G → VwM G y qy → Calls Tryz.prog 33 [.agg (y.cells qy).toArray].toArray w (Ret (.bool true) w) := by
      intro G x y qy h w hM hy
      have := c_vMay y qy (h.snW (by omega)).lw w hM hy
      rw [h.2.2] at this
      exact this
    have hN : ∀ e0 : Int, e0 ≠ 0 → ReadE (strL data) e0 → ∀ w, Calls Tryz.prog 18 [.string data, .int .i64 e0].toArray w (Ret (.bool true) w) := by
      intro e0 h0 h w
      have := c_none data hd e0 h0 hRW w
      rw [noneR_iff.2 h] at this
      exact this
    have hself : (data.toList == data.toList) = true := by simp
    clear WA WB L1 L2 hA hB hb1 hb2 hs1 hs2 hws hwt hbv hbu hs ht hv hu
    rcases hcase with ⟨rfl, rfl, rfl, hIs, ⟨rfl, ⟨rfl, rfl, rfl⟩ | ⟨rfl, rfl, rfl⟩ | ⟨rfl, rfl⟩⟩ | rfl⟩ | ⟨rfl, rfl, rfl⟩ | ⟨rfl, rfl⟩
    all_goals
      refine enter [.tmp 10] Tryz.func6 rfl Tryz.ntmps6 rfl rfl ?_
      have H := St.start w0
      repeat' (first | refine y1 sg ?_ | refine y3 ?_ | refine y5 sg ?_ | refine y7 sg H ?_ | (refine y9 H ?_; intro b w H) | (refine y10 sg H ?_; intro b w H) | (refine y11 sg H ?_; intro w H) | (refine' y30 ent8 ?_ ?_; rotate_left; exact c_works _; intro w hcl; replace H := H.ext hcl; clear hcl) | (refine' y30 ent20 ?_ ?_; rotate_left; exact cws _ (H.memF hF); intro w hcl; replace H := H.ext hcl; clear hcl) | (refine' y30 ent20 ?_ ?_; rotate_left; exact cwt _ (H.memF hF); intro w hcl; replace H := H.ext hcl; clear hcl) | (refine' y30 ent21 ?_ ?_; rotate_left; exact cbv _ (H.memF hF); intro w hcl; replace H := H.ext hcl; clear hcl) | (refine' y30 ent21 ?_ ?_; rotate_left; exact cbu _ (H.memF hF); intro w hcl; replace H := H.ext hcl; clear hcl) | (refine' y30 ent10 ?_ ?_; rotate_left; exact CA _ (H.memF hF); intro w hcl; replace H := H.ext hcl; clear hcl) | (refine' y30 ent10 ?_ ?_; rotate_left; exact CB _ (H.memF hF); intro w hcl; replace H := H.ext hcl; clear hcl) | (refine' y30 ent10 ?_ ?_; rotate_left; exact hCX r2 _ H.mem (hxm.mono (by intro p hp; simp [hp])) (hym.mono (by intro p hp; simp [hp])); intro w hcl; replace H := H.ext hcl; clear hcl) | (refine' y30 ent32 ?_ ?_; rotate_left; exact M1 _ (H.memF hF); intro w hcl; replace H := H.ext hcl; clear hcl) | (refine' y30 ent33 ?_ ?_; rotate_left; exact M2 _ (H.memF hF); intro w hcl; replace H := H.ext hcl; clear hcl) | (refine' y30 ent32 ?_ ?_; rotate_left; exact hMX r2 _ H.mem (hxm.mono (by intro p hp; simp [hp])); intro w hcl; replace H := H.ext hcl; clear hcl) | (refine' y30 ent33 ?_ ?_; rotate_left; exact hVX r2 _ H.mem (hym.mono (by intro p hp; simp [hp])); intro w hcl; replace H := H.ext hcl; clear hcl) | (refine' y30 ent15 ?_ ?_; rotate_left; exact hIs _ (H.memF hF); intro w hcl; replace H := H.ext hcl; clear hcl) | (refine' y30 ent13 ?_ ?_; rotate_left; exact S1 _ (H.memF hF); intro w hcl; replace H := H.ext hcl; clear hcl) | (refine' y30 ent14 ?_ ?_; rotate_left; exact S2 _ (H.memF hF); intro w hcl; replace H := H.ext hcl; clear hcl) | (refine' y32 ent16 ?_ ?_; rotate_left; exact c_Read data hd hRW _; intro vv M w hR hS; replace H := H.addR hS; clear hS; (try simp only [List.cons_append, List.nil_append] at H); obtain ⟨x, px, y, qy, e, rfl, hxm, hym, hra⟩ := hR; rcases hra with ⟨rfl, r1, r2⟩|⟨rfl, r1, rfl, rfl, r2⟩|⟨rfl, r1, rfl, rfl⟩) | (refine' y30 ent18 ?_ ?_; rotate_left; exact hN 4 (by decide) (.inl ⟨rfl, r1, r2⟩) _; intro w hcl; replace H := H.ext hcl; clear hcl) | (refine' y30 ent18 ?_ ?_; rotate_left; exact hN 40 (by decide) (.inr ⟨rfl, r1⟩) _; intro w hcl; replace H := H.ext hcl; clear hcl) | refine y13 ?_ | refine y14 ?_ | (refine y17 ?_ ?_; all_goals (intro h; try (exfalso; first | ((rw [d1] at h; cases h); done) | ((rw [d2] at h; cases h); done) | ((rw [d3] at h; cases h); done) | ((rw [d4] at h; cases h); done) | ((rw [d5] at h; cases h); done) | ((rw [hk] at h; cases h); done) | ((rw [hself] at h; cases h); done)))) | with_reducible apply OW.nil | with_reducible apply thn_n | with_reducible apply CW.seq | refine CW.region ?_ | with_reducible apply CW.ret | with_reducible apply CW.skip | with_reducible apply thn_r | refine y21 ?_ | refine y22 ?_ | (refine y23 ?_ ?_; all_goals (intro h; try (exfalso; first | ((rw [d1] at h; cases h); done) | ((rw [d2] at h; cases h); done) | ((rw [d3] at h; cases h); done) | ((rw [d4] at h; cases h); done) | ((rw [d5] at h; cases h); done) | ((rw [hk] at h; cases h); done) | ((rw [hself] at h; cases h); done)))) | fail)
      all_goals first
        | exact ret1 rfl H.cl rfl
        | (exfalso; omega)
        | trace_state
  · refine enter [.tmp 10] Tryz.func6 rfl Tryz.ntmps6 rfl rfl ?_
    have H := St.start w0
    repeat' (first | refine y1 sg ?_ | refine y3 ?_ | refine y5 sg ?_ | refine y7 sg H ?_ | (refine y9 H ?_; intro b w H) | (refine' y30 ent8 ?_ ?_; rotate_left; exact c_works _; intro w hcl; replace H := H.ext hcl; clear hcl) | (refine' y30 ent20 ?_ ?_; rotate_left; exact cws _ (H.memF hF); intro w hcl; replace H := H.ext hcl; clear hcl) | (refine' y30 ent20 ?_ ?_; rotate_left; exact cwt _ (H.memF hF); intro w hcl; replace H := H.ext hcl; clear hcl) | (refine' y30 ent21 ?_ ?_; rotate_left; exact cbv _ (H.memF hF); intro w hcl; replace H := H.ext hcl; clear hcl) | (refine' y30 ent21 ?_ ?_; rotate_left; exact cbu _ (H.memF hF); intro w hcl; replace H := H.ext hcl; clear hcl) | refine y13 ?_ | refine y14 ?_ | (refine y17 ?_ ?_; all_goals (intro h; try (exfalso; first | ((simp only [decide_eq_true_eq, decide_eq_false_iff_not, ge_iff_le, gt_iff_lt] at *; omega); done)))) | with_reducible apply OW.nil | with_reducible apply thn_n | with_reducible apply CW.seq | refine CW.region ?_ | with_reducible apply CW.ret | with_reducible apply thn_r | refine y21 ?_ | (refine y23 ?_ ?_; all_goals (intro h; try (exfalso; first | ((simp only [decide_eq_true_eq, decide_eq_false_iff_not, ge_iff_le, gt_iff_lt] at *; omega); done)))) | fail)
    all_goals first
      | exact ret1 rfl H.cl rfl
      | trace_state
end Go.Proofs.YtggolnppckpdlaaGreat
