/- Texts of ours, joined: the steps of the proof, or the claim's theorem. -/
import Derived.Test.YtggolnppckpdlaaGreatQ02
import Derived.Test.YtggolnppckpdlaaGreatQ42
import Derived.Test.YtggolnppckpdlaaGreatQ46
import Derived.Test.YtggolnppckpdlaaGreatQ47
set_option linter.unusedSimpArgs false
set_option linter.unusedVariables false
namespace Go.Proofs.YtggolnppckpdlaaGreat
open Go Go.Sk Go.RowKit
attribute [local irreducible] Go.Calls
def L0 : List Nat := [0, 0, 1, 1, 0, 0, 0, 0, 0, 0, 0, 0, 0]
def L300 : List Nat := [172, 2, 0, 1, 1, 0, 0, 0, 0, 0, 0, 0, 0, 0]
theorem staM_at {F : Frag} (n : Int) : StaM F (Sta.at n) SPt.zero := ⟨slA0, slA0, slA0, slA0, slA0, fun j hj => absurd hj (Nat.not_lt_zero _)⟩
theorem byt0 : Byt L0 := by intro b hb; simp [L0] at hb; omega
theorem byt300 : Byt L300 := by intro b hb; simp [L300] at hb; omega
theorem bodyC0 (w : World) : Calls Tryz.prog 10 [.agg ((Sta.at 0).cells SPt.zero).toArray, .agg (Vws.zero.cells VPt.zero).toArray].toArray w (Ret (.tuple #[.string (bytesOf L0), .int .i64 0]) w) := by
  have := c_Body (F := []) (Sta.at 0) SPt.zero Vws.zero VPt.zero (snW_at 0) w (fun _ h => by cases h) (staM_at 0) VwM.zero
  rw [body0] at this
  exact this
theorem bodyC300 (w : World) : Calls Tryz.prog 10 [.agg ((Sta.at 300).cells SPt.zero).toArray, .agg (Vws.zero.cells VPt.zero).toArray].toArray w (Ret (.tuple #[.string (bytesOf L300), .int .i64 0]) w) := by
  have := c_Body (F := []) (Sta.at 300) SPt.zero Vws.zero VPt.zero (snW_at 300) w (fun _ h => by cases h) (staM_at 300) VwM.zero
  rw [body300] at this
  exact this
def F7 : List Nat := sealL (headL 7 L0)
theorem F7_len : F7.length = 33 := by simp [F7, sealL, le4, headL, be8, be4, L0]
theorem F7_byt : Byt F7 := sealL_byt (headL_byt byt0)
theorem fileC (w : World) : Calls Tryz.prog 11 [.int .i64 7, .agg ((Sta.at 0).cells SPt.zero).toArray, .agg (Vws.zero.cells VPt.zero).toArray].toArray w (Ret (.tuple #[.string (bytesOf F7), .int .i64 0]) w) := by
  have := c_File (F := []) 7 (Sta.at 0) SPt.zero Vws.zero VPt.zero (snW_at 0) w (fun _ h => by cases h) (staM_at 0) VwM.zero
  rw [file7] at this
  exact this
theorem hd7 : HdOk (headL 7 L0) 7 L0 := ⟨by decide, rfl⟩
theorem openC (w : World) : Calls Tryz.prog 12 [.string (bytesOf F7)].toArray w (RetF (fun N v => ∃ p q, v = .tuple #[.int .i64 7, .agg ((Sta.at 0).cells p).toArray, .agg (Vws.zero.cells q).toArray, .int .i64 0] ∧ StaM N (Sta.at 0) p ∧ VwM N Vws.zero q) w) := by
  have hs : strL (bytesOf F7) = F7 := strL_bytesOf F7_byt
  have h := c_sOpen (bytesOf F7) (by rw [bytesOf_len, F7_len]; decide) (by
    rw [hs, show F7 = sealL (headL 7 L0) from rfl, open_seal]
    intro q b hh _
    rw [hh.inj hd7]
    exact RdW.short (by decide)) w
  rw [hs] at h
  refine Calls.mono h ?_
  rintro e w' ⟨v, N, he, ⟨n, x, p, y, q, e', rfl, hx, hy, ha⟩, hst⟩
  obtain ⟨rfl, rfl, rfl, rfl⟩ := ha.file (l := headL 7 L0) (by decide) hd7 rd0
  exact ⟨_, N, he, ⟨p, q, rfl, hx, hy⟩, hst⟩
theorem sameC {F : Frag} (p : SPt) (w0 : World) (hF : Mem w0 F) (hs : StaM F (Sta.at 0) p) : Calls Tryz.prog 13 [.agg ((Sta.at 0).cells p).toArray, .agg (Sta.empty.cells SPt.zero).toArray].toArray w0 (Ret (.bool true) w0) := by
  have := c_stSame (Sta.at 0) Sta.empty p SPt.zero w0 hF hs StaM.empty
  rw [isEq_iff.2 (show Sta.at 0 = Sta.empty from rfl)] at this
  exact this
theorem vsameC {F : Frag} (p : VPt) (w0 : World) (hF : Mem w0 F) (hs : VwM F Vws.zero p) : Calls Tryz.prog 14 [.agg (Vws.zero.cells p).toArray, .agg (Vws.zero.cells VPt.zero).toArray].toArray w0 (Ret (.bool true) w0) := by
  have := c_vwSame Vws.zero Vws.zero p VPt.zero w0 hF hs VwM.zero
  rw [isEq_iff.2 rfl] at this
  exact this
theorem isC (w0 : World) : Calls Tryz.prog 15 [.string (bytesOf L300), .agg ((Sta.at 300).cells SPt.zero).toArray, .agg (Vws.zero.cells VPt.zero).toArray].toArray w0 (Ret (.bool true) w0) := by
  have hs : strL (bytesOf L300) = L300 := strL_bytesOf byt300
  have := c_is (F := []) (bytesOf L300) (by rw [bytesOf_len]; decide) (Sta.at 300) SPt.zero Vws.zero VPt.zero (by rw [hs]; exact RdW.short (by decide)) w0 (fun _ h => by cases h) (staM_at 300) VwM.zero
  rw [hs, isR_iff.2 (show L300.length ≤ 1048556 ∧ RdOk L300 (Sta.at 300) Vws.zero from ⟨by decide, rd300⟩)] at this
  exact this
theorem noneC (w0 : World) : Calls Tryz.prog 18 [.string (bytesOf (List.replicate 13 0)), .int .i64 4].toArray w0 (Ret (.bool true) w0) := by
  have hs : strL (bytesOf (List.replicate 13 0)) = List.replicate 13 0 := strL_bytesOf (by intro b hb; have := List.eq_of_mem_replicate hb; omega)
  have := c_none (bytesOf (List.replicate 13 0)) (by rw [bytesOf_len]; decide) 4 (by decide) (by rw [hs]; exact RdW.short (by decide)) w0
  rw [hs, noneR_iff.2 (.inl ⟨rfl, by decide, no13⟩)] at this
  exact this
set_option maxRecDepth 20000 in
set_option maxHeartbeats 8000000 in
theorem c_works (w0 : World) : Calls Tryz.prog 8 [].toArray w0 (Ret (.bool true) w0) := by
  have k1 : ((bytesOf L0).toList == ((⟨#[0, 0, 1, 1]⟩ : ByteArray) ++ bytesOf (List.replicate 9 0)).toList) = true := by
    rw [str_eq, decide_eq_true_iff, strL_app, strL_bytesOf byt0, strL_bytesOf (by intro b hb; have := List.eq_of_mem_replicate hb; omega)]; decide
  have k2 : (((bytesOf F7).size : Int) == 33) = true := by rw [bytesOf_len, F7_len]; rfl
  have k3 : ((bytesOf L300).toList == ((⟨#[172, 2, 0, 1, 1]⟩ : ByteArray) ++ bytesOf (List.replicate 9 0)).toList) = true := by
    rw [str_eq, decide_eq_true_iff, strL_app, strL_bytesOf byt300, strL_bytesOf (by intro b hb; have := List.eq_of_mem_replicate hb; omega)]; decide
  refine enter [.tmp 0] Tryz.func8 rfl Tryz.ntmps8 rfl rfl ?_
  have H := St.start w0
  repeat' (first | refine y1 sg ?_ | refine y3 ?_ | refine y7 sg H ?_ | (refine y10 sg H ?_; intro b w H) | (refine y11 sg H ?_; intro w H) | (refine' y30 ent34 ?_ ?_; rotate_left; exact c_Empty _; intro w hcl; replace H := H.ext hcl; clear hcl) | (refine' y30 ent10 ?_ ?_; rotate_left; exact bodyC0 _; intro w hcl; replace H := H.ext hcl; clear hcl) | (refine' y30 ent10 ?_ ?_; rotate_left; exact bodyC300 _; intro w hcl; replace H := H.ext hcl; clear hcl) | (refine' y30 ent11 ?_ ?_; rotate_left; exact fileC _; intro w hcl; replace H := H.ext hcl; clear hcl) | (refine' y32 ent12 ?_ ?_; rotate_left; exact openC _; intro vv M w hR hS; replace H := H.addR hS; clear hS; (try simp only [List.cons_append, List.nil_append] at H); obtain ⟨po, qo, rfl, hsm, hvm⟩ := hR) | with_reducible apply OW.nil | with_reducible apply thn_n | with_reducible apply CW.seq | refine CW.region ?_ | fail)
  repeat' (first | refine y2 sg ?_ | refine y6 sg ?_ | refine y8 sg H ?_ | (refine' y31 ent34 ?_ ?_; rotate_left; exact (fun _ hcl => c_Empty _)) | (refine' y31 ent13 ?_ ?_; rotate_left; exact (fun _ hcl => sameC po _ (H.ext hcl).mem (hsm.mono (by intro p hp; simp [hp])))) | (refine' y31 ent14 ?_ ?_; rotate_left; exact (fun _ hcl => vsameC qo _ (H.ext hcl).mem (hvm.mono (by intro p hp; simp [hp])))) | (refine' y31 ent19 ?_ ?_; rotate_left; exact (fun _ hcl => c_manyS 9 0 (by decide) _)) | (refine' y31 ent19 ?_ ?_; rotate_left; exact (fun _ hcl => c_manyS 13 0 (by decide) _)) | (refine' y31 ent15 ?_ ?_; rotate_left; exact (fun _ hcl => isC _)) | (refine' y31 ent18 ?_ ?_; rotate_left; exact (fun _ hcl => noneC _)) | ((with_reducible apply QX.val); exact rfl; exact rfl; exact Yq.cat rfl rfl rfl (by rw [bytesOf_len, List.length_replicate]; decide)) | refine y15 ?_ | (refine y18 ?_ ?_; all_goals (intro h; try (exfalso; first | ((rw [k1] at h; cases h); done) | ((rw [k2] at h; cases h); done) | ((rw [k3] at h; cases h); done)))) | (with_reducible apply QW.nil; intro w hcl; replace H := H.ext hcl; clear hcl) | with_reducible apply thn_n | refine y20 mixed ?_ | with_reducible apply CW.ret | fail)
  all_goals exact ret1 rfl H.cl rfl
end Go.Proofs.YtggolnppckpdlaaGreat
set_option linter.unusedSimpArgs false
set_option linter.unusedVariables false
namespace Go.Proofs.YtggolnppckpdlaaGreat
open Go Go.Sk Go.RowKit
theorem auc_small {l : List Auc} (h : mayAllF l = true) : l.length ≤ 32 ∧ ∀ k, k < l.length → (l.getD k default).bids.length ≤ 16 := by
  unfold mayAllF at h
  simp only [Bool.and_eq_true, decide_eq_true_eq] at h
  refine ⟨by omega, fun k hk => ?_⟩
  have hm : mayF (l.getD k default) = true := by
    rcases idx_cases (badAuc l) l.length with ⟨j, h1, h2, h3, h4⟩ | ⟨h1, h2⟩
    · omega
    · have := h1 k hk
      unfold badAuc at this
      simp only [Bool.or_eq_false_iff, Bool.not_eq_false'] at this
      exact this.2
  have a7 := (may_parts hm).2.2.2.2.2.2.1
  unfold mannerOk at a7
  split at a7
  · unfold smayF at a7
    simp only [Bool.and_eq_true, decide_eq_true_eq] at a7
    omega
  · unfold emayF at a7
    simp only [Bool.and_eq_true, decide_eq_true_eq] at a7
    omega
theorem aucB_small {x : Auc} (h : x.bids.length ≤ 16) : (aucB x).length ≤ 401 := by
  have h1 := bidsB_len (l := x.bids) (by omega)
  have h2 := nb [x.id, x.seller, x.inst]
  have h3 := nb [x.qty, x.reserve, x.step, x.fin]
  simp only [List.length_cons, List.length_nil] at h2 h3
  unfold aucB flagB
  simp only [List.length_append, List.length_cons, List.length_nil]
  omega
theorem body_small {s : Sta} {v : Vws} (h1 : mayS s = true) (h2 : viewsF v = true) (hr : s.rows.length ≤ 1500) (hp : v.poss.length ≤ 600) (hl : v.lins.length ≤ 600) : (bodyL s v).length ≤ 300000 := by
  have a1 : acctsF s.accts = true := mayS_at h1 1 (by decide)
  have a2 : instsF s.insts = true := mayS_at h1 2 (by decide)
  have a4 : ordersF s.orders = true := (ordersSt_iff.1 (mayS_at h1 4 (by decide))).1
  have a5 : mayAllF s.aucs = true := by
    have : aucsSt s = true := mayS_at h1 5 (by decide)
    unfold aucsSt at this
    rw [Bool.and_eq_true] at this
    exact this.1
  have b1 := (acctsF_iff.1 a1)
  have b2 := (instsF_iff.1 a2)
  have b4 : s.orders.length ≤ 128 := by
    unfold ordersF at a4
    simp only [Bool.and_eq_true, decide_eq_true_eq] at a4
    exact a4.1
  have b5 := auc_small a5
  have n0 := nb [s.clock, s.fee, s.nextO, s.nextA]
  simp only [List.length_cons, List.length_nil] at n0
  have n1 := manyB_len (n := s.accts.length) (ob := fun k => accB (ac_ s.accts k)) (by omega) fun k hk => accB_len (Nat.le_trans (name_le (b1.2 k hk).1) (by decide))
  have n2 := manyB_len (n := s.insts.length) (ob := fun k => insB (in_ s.insts k)) (by omega) fun k hk => insB_len (Nat.le_trans (name_le (b2.2 k hk).1) (by decide))
  have n3 := manyB_len (n := s.rows.length) (ob := fun k => rowB (rw_ s.rows k)) (by omega) fun k _ => rowB_len (rw_ s.rows k)
  have n4 := manyB_len (n := s.orders.length) (ob := fun k => ordB (od_ s.orders k)) (by omega) fun k _ => ordB_len (od_ s.orders k)
  have n5 := manyB_len (n := s.aucs.length) (ob := fun k => aucB (s.aucs.getD k default)) (by omega) fun k hk => aucB_small (b5.2 k hk)
  unfold viewsF at h2
  simp only [Bool.and_eq_true] at h2
  obtain ⟨c1, c2, _⟩ := opnsF_iff.1 h2.1
  have m1 := manyB_len (n := v.opn.length) (ob := fun k => opnB (op_ v.opn k)) (by omega) fun k _ => opnB_len (op_ v.opn k)
  have m2 := manyB_len (n := v.lots.length) (ob := fun k => lotB (lt_ v.lots k)) (by omega) fun k _ => lotB_len (lt_ v.lots k)
  have m3 := manyB_len (n := v.poss.length) (ob := fun k => posB (ps_ v.poss k)) (by omega) fun k _ => posB_len (ps_ v.poss k)
  have m4 := manyB_len (n := v.lins.length) (ob := fun k => linB (ln_ v.lins k)) (by omega) fun k _ => linB_len (ln_ v.lins k)
  unfold bodyL stateB viewsB
  simp only [List.length_append]
  have := b1.1; have := b2.1; have := b5.1
  omega
theorem body_ok {s : Sta} {v : Vws} (hr : s.rows.length ≤ 1500) (hp : v.poss.length ≤ 600) (hl : v.lins.length ≤ 600) : bodyF s v = if mayS s && viewsF v then (bodyL s v, 0) else ([], 4) := by
  unfold bodyF
  by_cases h : (mayS s && viewsF v) = true
  · obtain ⟨h1, h2⟩ : mayS s = true ∧ viewsF v = true := by simpa using h
    have := body_small h1 h2 hr hp hl
    rw [if_pos h, if_pos h, if_neg (by omega)]
  · rw [if_neg h, if_neg h]
theorem body_inj {s t : Sta} {v u : Vws} (h1 : mayS s = true) (h2 : viewsF v = true) (k1 : KindB v) (h3 : mayS t = true) (h4 : viewsF u = true) (k2 : KindB u) : bodyL s v = bodyL t u ↔ s = t ∧ v = u := by
  constructor
  · intro h
    have a := RdOk.of h1 h2 k1
    rw [h] at a
    exact a.uniq (RdOk.of h3 h4 k2)
  · rintro ⟨rfl, rfl⟩; rfl
end Go.Proofs.YtggolnppckpdlaaGreat
set_option linter.unusedSimpArgs false
set_option linter.unusedVariables false
namespace Go.Proofs.YtggolnppckpdlaaGreat
open Go Go.Sk Go.RowKit
structure StaA (s : Sta) : Prop where
  acN : ∀ k, k < s.accts.length → (ac_ s.accts k).name.size ≤ 140737488355328
  insN : ∀ k, k < s.insts.length → (in_ s.insts k).name.size ≤ 140737488355328
  rw : ∀ j, j < s.rows.length → (rw_ s.rows j).wf
  od : ∀ k, k < s.orders.length → 0 ≤ (od_ s.orders k).side ∧ (od_ s.orders k).side < 256
structure VwA (v : Vws) : Prop where
  op : ∀ k, k < v.opn.length → 0 ≤ (op_ v.opn k).side ∧ (op_ v.opn k).side < 256
  kd : KindB v
  ln : ∀ k, k < v.lins.length → (ln_ v.lins k).wf
theorem staW_light {s : Sta} (hL : Light s) (ha : StaA s) : StaW s := by
  refine ⟨?_, ha.acN, ?_, ha.insN, ha.rw⟩
  · have := hL.ac; omega
  · have := hL.ins; omega
theorem staB_light {s : Sta} (hL : Light s) (ha : StaA s) (h1 : mayS s = true) : StaB s := by
  have a1 : acctsF s.accts = true := mayS_at h1 1 (by decide)
  have a2 : instsF s.insts = true := mayS_at h1 2 (by decide)
  have b1 := (acctsF_iff.1 a1)
  have b2 := (instsF_iff.1 a2)
  refine ⟨?_, fun k hk => Nat.le_trans (name_le (b1.2 k hk).1) (by decide), ?_, fun k hk => Nat.le_trans (name_le (b2.2 k hk).1) (by decide), ?_, ?_, ha.od, ?_, ?_⟩
  · have := hL.ac; omega
  · have := hL.ins; omega
  · have := hL.rw; omega
  · have := hL.od; omega
  · have := hL.au; omega
  · intro k hk
    have := hL.bd k hk; omega
theorem snW_light {s : Sta} {v : Vws} (hL : Light s) (ha : StaA s) (hv : VwA v) (hb : v.opn.length + v.lots.length + v.poss.length + v.lins.length < 600) : SnW s v := by
  refine ⟨staW_light hL ha, staB_light hL ha, ⟨?_, hv.op, ?_, ?_, ?_, hv.kd⟩, hv.ln⟩
  · omega
  · omega
  · omega
  · omega
theorem bodyF_light {s : Sta} {v : Vws} (hL : Light s) (hb : v.opn.length + v.lots.length + v.poss.length + v.lins.length < 600) : bodyF s v = if mayS s && viewsF v then (bodyL s v, 0) else ([], 4) :=
  body_ok hL.rw (by omega) (by omega)
theorem bodyF_yes {s : Sta} {v : Vws} (hL : Light s) (hb : v.opn.length + v.lots.length + v.poss.length + v.lins.length < 600) (h1 : mayS s = true) (h2 : viewsF v = true) : bodyF s v = (bodyL s v, 0) := by
  rw [bodyF_light hL hb, h1, h2]; rfl
theorem bodyF_no {s : Sta} {v : Vws} (hL : Light s) (hb : v.opn.length + v.lots.length + v.poss.length + v.lins.length < 600) (h : mayS s = false ∨ viewsF v = false) : bodyF s v = ([], 4) := by
  rw [bodyF_light hL hb]
  rcases h with h | h <;> rw [h] <;> simp
theorem rdw_light {s : Sta} {v : Vws} (hL : Light s) (ha : StaA s) (hv : VwA v) (h1 : mayS s = true) (h2 : viewsF v = true) : RdW (bodyL s v) := RdW.of (may_staP h1) (may_vwsP h2 hv.kd) (staW_light hL ha)
theorem mayrd {B : List Nat} {x : Sta} {y : Vws} (h : RdOk B x y) (hl : B.length ≤ 10000) : bodyF x y = (B, 0) := by
  have e := h.body
  unfold bodyF
  rw [h.2.1, h.2.2, Bool.and_true, if_pos rfl, ← e, if_neg (by omega)]
end Go.Proofs.YtggolnppckpdlaaGreat
set_option linter.unusedSimpArgs false
set_option linter.unusedVariables false
namespace Go.Proofs.YtggolnppckpdlaaGreat
open Go Go.Sk Go.RowKit Go.ChangeShapes
theorem wf_i64 {i : Int} (h : (Lit.int .i64 i).wf = true) : -9223372036854775808 ≤ i ∧ i ≤ 9223372036854775807 := by
  simpa [Lit.wf, IntKind.min, IntKind.max, IntKind.signed, IntKind.bits] using h
theorem wf_u8 {i : Int} (h : (Lit.int .u8 i).wf = true) : 0 ≤ i ∧ i < 256 := by
  have : 0 ≤ i ∧ i ≤ 255 := by simpa [Lit.wf, IntKind.min, IntKind.max, IntKind.signed, IntKind.bits] using h
  omega
theorem wf_u32 {i : Int} (h : (Lit.int .u32 i).wf = true) : 0 ≤ i ∧ i < 4294967296 := by
  have : 0 ≤ i ∧ i ≤ 4294967295 := by simpa [Lit.wf, IntKind.min, IntKind.max, IntKind.signed, IntKind.bits] using h
  omega
section
variable {H : Type} {enc : TypeId × Value → H} {w : World}
set_option maxRecDepth 20000 in
theorem rz_ac {cs : List Value} (h : Rz enc Tryz.prog w 70 cs) : ∃ x : Ac, cs = x.cells ∧ x.name.size ≤ 140737488355328 := by
  have h := h.struct (sg.desc rfl rfl) (by kernel_rfl)
  obtain ⟨x0, cs, rfl, b0, h⟩ := h.string (sg.desc rfl rfl) (sg.ncells rfl rfl)
  obtain ⟨x1, cs, rfl, _, h⟩ := h.bool (sg.desc rfl rfl) (sg.ncells rfl rfl)
  obtain rfl := h.nil
  exact ⟨⟨x0, x1⟩, rfl, b0⟩
set_option maxRecDepth 20000 in
theorem rz_ins {cs : List Value} (h : Rz enc Tryz.prog w 72 cs) : ∃ x : Ins, cs = x.cells ∧ x.name.size ≤ 140737488355328 := by
  have h := h.struct (sg.desc rfl rfl) (by kernel_rfl)
  obtain ⟨x0, cs, rfl, b0, h⟩ := h.string (sg.desc rfl rfl) (sg.ncells rfl rfl)
  obtain ⟨x1, cs, rfl, _, h⟩ := h.int (sg.desc rfl rfl) (sg.ncells rfl rfl)
  obtain ⟨x2, cs, rfl, _, h⟩ := h.bool (sg.desc rfl rfl) (sg.ncells rfl rfl)
  obtain rfl := h.nil
  exact ⟨⟨x0, x1, x2⟩, rfl, b0⟩
set_option maxRecDepth 20000 in
theorem rz_row {cs : List Value} (h : Rz enc Tryz.prog w 74 cs) : ∃ x : Row4, cs = x.cells ∧ x.wf := by
  have h := h.struct (sg.desc rfl rfl) (by kernel_rfl)
  obtain ⟨x0, cs, rfl, _, h⟩ := h.int (sg.desc rfl rfl) (sg.ncells rfl rfl)
  obtain ⟨x1, cs, rfl, _, h⟩ := h.int (sg.desc rfl rfl) (sg.ncells rfl rfl)
  obtain ⟨x2, cs, rfl, b2, h⟩ := h.int (sg.desc rfl rfl) (sg.ncells rfl rfl)
  obtain ⟨x3, cs, rfl, b3, h⟩ := h.int (sg.desc rfl rfl) (sg.ncells rfl rfl)
  obtain rfl := h.nil
  exact ⟨⟨x0, x1, x2, x3⟩, rfl, wf_i64 b2, wf_i64 b3⟩
set_option maxRecDepth 20000 in
theorem rz_odr {cs : List Value} (h : Rz enc Tryz.prog w 76 cs) : ∃ x : Odr, cs = x.cells ∧ (0 ≤ x.side ∧ x.side < 256) := by
  have h := h.struct (sg.desc rfl rfl) (by kernel_rfl)
  obtain ⟨x0, cs, rfl, _, h⟩ := h.int (sg.desc rfl rfl) (sg.ncells rfl rfl)
  obtain ⟨x1, cs, rfl, _, h⟩ := h.int (sg.desc rfl rfl) (sg.ncells rfl rfl)
  obtain ⟨x2, cs, rfl, _, h⟩ := h.int (sg.desc rfl rfl) (sg.ncells rfl rfl)
  obtain ⟨x3, cs, rfl, b3, h⟩ := h.int (sg.desc rfl rfl) (sg.ncells rfl rfl)
  obtain ⟨x4, cs, rfl, _, h⟩ := h.int (sg.desc rfl rfl) (sg.ncells rfl rfl)
  obtain ⟨x5, cs, rfl, _, h⟩ := h.int (sg.desc rfl rfl) (sg.ncells rfl rfl)
  obtain rfl := h.nil
  exact ⟨⟨x0, x1, x2, x3, x4, x5⟩, rfl, wf_u8 b3⟩
set_option maxRecDepth 20000 in
theorem rz_bid {cs : List Value} (h : Rz enc Tryz.prog w 78 cs) : ∃ x : Bid, cs = x.cells ∧ True := by
  have h := h.struct (sg.desc rfl rfl) (by kernel_rfl)
  obtain ⟨x0, cs, rfl, _, h⟩ := h.int (sg.desc rfl rfl) (sg.ncells rfl rfl)
  obtain ⟨x1, cs, rfl, _, h⟩ := h.int (sg.desc rfl rfl) (sg.ncells rfl rfl)
  obtain rfl := h.nil
  exact ⟨⟨x0, x1⟩, rfl, trivial⟩
set_option maxRecDepth 20000 in
theorem rz_auc {cs : List Value} (h : Rz enc Tryz.prog w 81 cs) : ∃ x : Auc × (Option Addr × Nat), cs = x.1.cells x.2.1 x.2.2 ∧ Bids (allF w) x.2.1 x.2.2 x.1.bids := by
  have h := h.struct (sg.desc rfl rfl) (by kernel_rfl)
  obtain ⟨x0, cs, rfl, _, h⟩ := h.int (sg.desc rfl rfl) (sg.ncells rfl rfl)
  obtain ⟨x1, cs, rfl, _, h⟩ := h.int (sg.desc rfl rfl) (sg.ncells rfl rfl)
  obtain ⟨x2, cs, rfl, _, h⟩ := h.int (sg.desc rfl rfl) (sg.ncells rfl rfl)
  obtain ⟨x3, cs, rfl, _, h⟩ := h.bool (sg.desc rfl rfl) (sg.ncells rfl rfl)
  obtain ⟨x4, cs, rfl, _, h⟩ := h.int (sg.desc rfl rfl) (sg.ncells rfl rfl)
  obtain ⟨x5, cs, rfl, _, h⟩ := h.int (sg.desc rfl rfl) (sg.ncells rfl rfl)
  obtain ⟨x6, cs, rfl, _, h⟩ := h.int (sg.desc rfl rfl) (sg.ncells rfl rfl)
  obtain ⟨x7, cs, rfl, _, h⟩ := h.int (sg.desc rfl rfl) (sg.ncells rfl rfl)
  obtain ⟨a, len, cap, cs, rfl, hs, h⟩ := h.slice (sg.desc rfl rfl) (sg.ncells rfl rfl) (sg.ncells rfl rfl) (sg.nbytes rfl rfl)
  obtain rfl := h.nil
  obtain ⟨l, rfl, hl, _⟩ := hs.named (el := Bid.cells) (fun _ => rz_bid)
  exact ⟨⟨⟨x0, x1, x2, x3, x4, x5, x6, x7, l⟩, a, cap⟩, rfl, hl⟩
set_option maxRecDepth 20000 in
theorem rz_opn {cs : List Value} (h : Rz enc Tryz.prog w 83 cs) : ∃ x : Opn, cs = x.cells ∧ (0 ≤ x.side ∧ x.side < 256) := by
  have h := h.struct (sg.desc rfl rfl) (by kernel_rfl)
  obtain ⟨x0, cs, rfl, _, h⟩ := h.int (sg.desc rfl rfl) (sg.ncells rfl rfl)
  obtain ⟨x1, cs, rfl, _, h⟩ := h.int (sg.desc rfl rfl) (sg.ncells rfl rfl)
  obtain ⟨x2, cs, rfl, _, h⟩ := h.int (sg.desc rfl rfl) (sg.ncells rfl rfl)
  obtain ⟨x3, cs, rfl, b3, h⟩ := h.int (sg.desc rfl rfl) (sg.ncells rfl rfl)
  obtain ⟨x4, cs, rfl, _, h⟩ := h.int (sg.desc rfl rfl) (sg.ncells rfl rfl)
  obtain ⟨x5, cs, rfl, _, h⟩ := h.int (sg.desc rfl rfl) (sg.ncells rfl rfl)
  obtain rfl := h.nil
  exact ⟨⟨x0, x1, x2, x3, x4, x5⟩, rfl, wf_u8 b3⟩
set_option maxRecDepth 20000 in
theorem rz_lot {cs : List Value} (h : Rz enc Tryz.prog w 85 cs) : ∃ x : Lt, cs = x.cells ∧ True := by
  have h := h.struct (sg.desc rfl rfl) (by kernel_rfl)
  obtain ⟨x0, cs, rfl, _, h⟩ := h.int (sg.desc rfl rfl) (sg.ncells rfl rfl)
  obtain ⟨x1, cs, rfl, _, h⟩ := h.int (sg.desc rfl rfl) (sg.ncells rfl rfl)
  obtain ⟨x2, cs, rfl, _, h⟩ := h.int (sg.desc rfl rfl) (sg.ncells rfl rfl)
  obtain ⟨x3, cs, rfl, _, h⟩ := h.int (sg.desc rfl rfl) (sg.ncells rfl rfl)
  obtain rfl := h.nil
  exact ⟨⟨x0, x1, x2, x3⟩, rfl, trivial⟩
set_option maxRecDepth 20000 in
theorem rz_pos {cs : List Value} (h : Rz enc Tryz.prog w 87 cs) : ∃ x : Psn, cs = x.cells ∧ True := by
  have h := h.struct (sg.desc rfl rfl) (by kernel_rfl)
  obtain ⟨x0, cs, rfl, _, h⟩ := h.int (sg.desc rfl rfl) (sg.ncells rfl rfl)
  obtain ⟨x1, cs, rfl, _, h⟩ := h.int (sg.desc rfl rfl) (sg.ncells rfl rfl)
  obtain ⟨x2, cs, rfl, _, h⟩ := h.int (sg.desc rfl rfl) (sg.ncells rfl rfl)
  obtain ⟨x3, cs, rfl, _, h⟩ := h.int (sg.desc rfl rfl) (sg.ncells rfl rfl)
  obtain ⟨x4, cs, rfl, _, h⟩ := h.int (sg.desc rfl rfl) (sg.ncells rfl rfl)
  obtain ⟨x5, cs, rfl, _, h⟩ := h.int (sg.desc rfl rfl) (sg.ncells rfl rfl)
  obtain rfl := h.nil
  exact ⟨⟨x0, x1, x2, x3, x4, x5⟩, rfl, trivial⟩
set_option maxRecDepth 20000 in
theorem rz_lin {cs : List Value} (h : Rz enc Tryz.prog w 52 cs) : ∃ x : Ln, cs = x.cells ∧ ((0 ≤ x.kind ∧ x.kind < 256) ∧ x.wf) := by
  have h := h.struct (sg.desc rfl rfl) (by kernel_rfl)
  obtain ⟨x0, cs, rfl, _, h⟩ := h.int (sg.desc rfl rfl) (sg.ncells rfl rfl)
  obtain ⟨x1, cs, rfl, _, h⟩ := h.int (sg.desc rfl rfl) (sg.ncells rfl rfl)
  obtain ⟨x2, cs, rfl, b2, h⟩ := h.int (sg.desc rfl rfl) (sg.ncells rfl rfl)
  obtain ⟨x3, cs, rfl, b3, h⟩ := h.int (sg.desc rfl rfl) (sg.ncells rfl rfl)
  obtain ⟨x4, cs, rfl, b4, h⟩ := h.int (sg.desc rfl rfl) (sg.ncells rfl rfl)
  obtain rfl := h.nil
  exact ⟨⟨x0, x1, x2, x3, x4⟩, rfl, wf_u8 b2, wf_i64 b3, wf_i64 b4⟩
set_option maxRecDepth 20000 in
theorem rz_sta {cs : List Value} (h : Rz enc Tryz.prog w 29 cs) : ∃ (s : Sta) (p : SPt), cs = s.cells p ∧ StaM (allF w) s p ∧ StaA s := by
  have h := h.struct (sg.desc rfl rfl) (by kernel_rfl)
  obtain ⟨x0, cs, rfl, _, h⟩ := h.int (sg.desc rfl rfl) (sg.ncells rfl rfl)
  obtain ⟨x1, cs, rfl, _, h⟩ := h.int (sg.desc rfl rfl) (sg.ncells rfl rfl)
  obtain ⟨x2, cs, rfl, _, h⟩ := h.int (sg.desc rfl rfl) (sg.ncells rfl rfl)
  obtain ⟨x3, cs, rfl, _, h⟩ := h.int (sg.desc rfl rfl) (sg.ncells rfl rfl)
  obtain ⟨a4, n4, c4, cs, rfl, h4, h⟩ := h.slice (sg.desc rfl rfl) (sg.ncells rfl rfl) (sg.ncells rfl rfl) (sg.nbytes rfl rfl)
  obtain ⟨a5, n5, c5, cs, rfl, h5, h⟩ := h.slice (sg.desc rfl rfl) (sg.ncells rfl rfl) (sg.ncells rfl rfl) (sg.nbytes rfl rfl)
  obtain ⟨a6, n6, c6, cs, rfl, h6, h⟩ := h.slice (sg.desc rfl rfl) (sg.ncells rfl rfl) (sg.ncells rfl rfl) (sg.nbytes rfl rfl)
  obtain ⟨a7, n7, c7, cs, rfl, h7, h⟩ := h.slice (sg.desc rfl rfl) (sg.ncells rfl rfl) (sg.ncells rfl rfl) (sg.nbytes rfl rfl)
  obtain ⟨a8, n8, c8, cs, rfl, h8, h⟩ := h.slice (sg.desc rfl rfl) (sg.ncells rfl rfl) (sg.ncells rfl rfl) (sg.nbytes rfl rfl)
  obtain rfl := h.nil
  obtain ⟨l4, rfl, m4, w4⟩ := h4.named (el := Ac.cells) (fun _ => rz_ac)
  obtain ⟨l5, rfl, m5, w5⟩ := h5.named (el := Ins.cells) (fun _ => rz_ins)
  obtain ⟨l6, rfl, m6, w6⟩ := h6.named (el := Row4.cells) (fun _ => rz_row)
  obtain ⟨l7, rfl, m7, w7⟩ := h7.named (el := Odr.cells) (fun _ => rz_odr)
  obtain ⟨l8, rfl, m8, w8⟩ := h8.named (α := Auc × (Option Addr × Nat)) (el := fun x => x.1.cells x.2.1 x.2.2) (fun _ => rz_auc)
  have hg : ∀ j, (l8.map (·.1)).getD j default = (l8.getD j default).1 := fun j => by
    simp only [List.getD_eq_getElem?_getD, List.getElem?_map]
    cases l8[j]? <;> rfl
  refine ⟨⟨x0, x1, x2, x3, l4, l5, l6, l7, l8.map (·.1)⟩, ⟨a4, c4, a5, c5, a6, c6, a7, c7, a8, c8, fun j => (l8.getD j default).2⟩, ?_, ⟨m4, m5, m6, m7, ?_, ?_⟩, w4, w5, w6, w7⟩
  · simp [Sta.cells]
  · simp only [List.length_map]
    have : ael (l8.map (·.1)) (fun j => (l8.getD j default).2) = fun j => (l8.getD j default).1.cells (l8.getD j default).2.1 (l8.getD j default).2.2 := by
      funext j
      unfold ael
      rw [hg]
    rw [this]
    exact m8
  · intro j hj
    simp only [List.length_map] at hj
    simp only [hg]
    exact w8 j hj
set_option maxRecDepth 20000 in
theorem rz_vws {cs : List Value} (h : Rz enc Tryz.prog w 35 cs) : ∃ (v : Vws) (p : VPt), cs = v.cells p ∧ VwM (allF w) v p ∧ VwA v := by
  have h := h.struct (sg.desc rfl rfl) (by kernel_rfl)
  obtain ⟨a4, n4, c4, cs, rfl, h4, h⟩ := h.slice (sg.desc rfl rfl) (sg.ncells rfl rfl) (sg.ncells rfl rfl) (sg.nbytes rfl rfl)
  obtain ⟨a5, n5, c5, cs, rfl, h5, h⟩ := h.slice (sg.desc rfl rfl) (sg.ncells rfl rfl) (sg.ncells rfl rfl) (sg.nbytes rfl rfl)
  obtain ⟨a6, n6, c6, cs, rfl, h6, h⟩ := h.slice (sg.desc rfl rfl) (sg.ncells rfl rfl) (sg.ncells rfl rfl) (sg.nbytes rfl rfl)
  obtain ⟨a7, n7, c7, cs, rfl, h7, h⟩ := h.slice (sg.desc rfl rfl) (sg.ncells rfl rfl) (sg.ncells rfl rfl) (sg.nbytes rfl rfl)
  obtain rfl := h.nil
  obtain ⟨l4, rfl, m4, w4⟩ := h4.named (el := Opn.cells) (fun _ => rz_opn)
  obtain ⟨l5, rfl, m5, w5⟩ := h5.named (el := Lt.cells) (fun _ => rz_lot)
  obtain ⟨l6, rfl, m6, w6⟩ := h6.named (el := Psn.cells) (fun _ => rz_pos)
  obtain ⟨l7, rfl, m7, w7⟩ := h7.named (el := Ln.cells) (fun _ => rz_lin)
  exact ⟨⟨l4, l5, l6, l7⟩, ⟨a4, c4, a5, c5, a6, c6, a7, c7⟩, rfl, ⟨m4, m5, m6, m7⟩, w4, fun k hk => (w7 k hk).1, fun k hk => (w7 k hk).2⟩
set_option maxRecDepth 20000 in
theorem arg_sta {v : Value} {d : DataW H} {p : List MemPlace} (h : DataW.Trod enc Tryz.prog w 0 (fun _ => true) true 29 v d p) (hz : ∀ n ∈ d.weights Tryz.prog 29, n ≤ reachBytes) (hv : Value.okWide Tryz.prog w .any 0 29 v) :
    ∃ (s : Sta) (p : SPt), v = .agg (s.cells p).toArray ∧ StaM (allF w) s p ∧ StaA s := by
  obtain ⟨cs, rfl, _⟩ := Go.WideShapes.okWide_struct (sg.desc rfl rfl) hv
  obtain ⟨s, p, e, hM, hA⟩ := rz_sta (Rz.of h hz)
  refine ⟨s, p, ?_, hM, hA⟩
  have : cs.toList = s.cells p := e
  rw [← this]
set_option maxRecDepth 20000 in
theorem arg_vws {v : Value} {d : DataW H} {p : List MemPlace} (h : DataW.Trod enc Tryz.prog w 0 (fun _ => true) true 35 v d p) (hz : ∀ n ∈ d.weights Tryz.prog 35, n ≤ reachBytes) (hv : Value.okWide Tryz.prog w .any 0 35 v) :
    ∃ (s : Vws) (p : VPt), v = .agg (s.cells p).toArray ∧ VwM (allF w) s p ∧ VwA s := by
  obtain ⟨cs, rfl, _⟩ := Go.WideShapes.okWide_struct (sg.desc rfl rfl) hv
  obtain ⟨s, p, e, hM, hA⟩ := rz_vws (Rz.of h hz)
  refine ⟨s, p, ?_, hM, hA⟩
  have : cs.toList = s.cells p := e
  rw [← this]
set_option maxRecDepth 20000 in
theorem arg_str {t : TypeId} {v : Value} {d : DataW H} {p : List MemPlace} (ht : Tryz.prog.underlying t = some .string) (h : DataW.Trod enc Tryz.prog w 0 (fun _ => true) true t v d p) (hz : ∀ n ∈ d.weights Tryz.prog t, n ≤ reachBytes) (hv : Value.okWide Tryz.prog w .any 0 t v) :
    ∃ s : ByteArray, v = .string s ∧ s.size ≤ 140737488355328 := by
  obtain ⟨s, rfl⟩ := Go.WideShapes.okWide_string ht hv
  obtain ⟨s', e, hs⟩ := (Rz.of h hz).string ht
  cases e
  exact ⟨s, rfl, hs⟩
set_option maxRecDepth 20000 in
theorem arg_int {t : TypeId} {v : Value} {d : DataW H} {p : List MemPlace} (ht : Tryz.prog.underlying t = some (.int .i64)) (h : DataW.Trod enc Tryz.prog w 0 (fun _ => true) true t v d p) (hv : Value.okWide Tryz.prog w .any 0 t v) :
    ∃ i : Int, v = .int .i64 i ∧ -9223372036854775808 ≤ i ∧ i ≤ 9223372036854775807 := by
  obtain ⟨i, rfl, _, _, hw⟩ := open_int ht hv h
  exact ⟨i, rfl, wf_i64 hw⟩
set_option maxRecDepth 20000 in
theorem arg_u32 {t : TypeId} {v : Value} {d : DataW H} {p : List MemPlace} (ht : Tryz.prog.underlying t = some (.int .u32)) (h : DataW.Trod enc Tryz.prog w 0 (fun _ => true) true t v d p) (hv : Value.okWide Tryz.prog w .any 0 t v) :
    ∃ i : Int, v = .int .u32 i ∧ 0 ≤ i ∧ i < 4294967296 := by
  obtain ⟨i, rfl, _, _, hw⟩ := open_int ht hv h
  exact ⟨i, rfl, wf_u32 hw⟩
end
end Go.Proofs.YtggolnppckpdlaaGreat
