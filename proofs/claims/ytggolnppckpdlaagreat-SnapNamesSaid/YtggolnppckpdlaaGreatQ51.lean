/- Texts of ours, joined: the steps of the proof, or the claim's theorem. -/
import Derived.Test.YtggolnppckpdlaaGreatQ48
import Derived.Test.YtggolnppckpdlaaGreatQ50
set_option linter.unusedSimpArgs false
set_option linter.unusedVariables false
namespace Go.Proofs.YtggolnppckpdlaaGreat
open Go Go.Sk Go.RowKit
theorem ent9 : Ent Tryz.prog 9 := Ent.mk Tryz.func9 (by kernel_rfl) (by kernel_rfl)
theorem ent17 : Ent Tryz.prog 17 := Ent.mk Tryz.func17 (by kernel_rfl) (by kernel_rfl)
attribute [local irreducible] Go.Calls
theorem sl_lit {F : Frag} {size b n : Nat} {cs : List Value} {T : TypeId} {fr : Nat × Nat} {el : Nat → List Value} (h : (b, Obj.cells cs.toArray T fr) ∈ F) (hn : n ≤ 140737488355328) (he : ∀ j, j < n → j * size + size ≤ cs.length ∧ (cs.drop (j * size)).take size = el j) : SlA F size (some ⟨b, 0, none⟩) n n el :=
  ⟨Nat.le_refl _, hn, b, 0, cs, T, fr, fun _ => ⟨rfl, h, fun j hj => by rw [Nat.zero_add]; exact he j hj⟩⟩
def lnC (z : Int) : List Value := [.int .i64 1, .int .i64 0, .int .u8 6, .int .i64 100, .int .i64 100, .int .i64 1, .int .i64 5, .int .u8 7, .int .i64 (-50), .int .i64 z]
def FullR (N : Frag) (v : Value) : Prop := ∃ (bl : Nat) (N' : Frag) (p : SPt) (a1 a2 a3 : Option Addr) (c1 c2 c3 : Nat), N = cb bl (lnC 50) 52 :: N' ∧ v = .tuple #[.agg ((fullS 100).cells p).toArray, .agg ((fullV 50).cells ⟨a1, c1, a2, c2, a3, c3, some ⟨bl, 0, none⟩, 2⟩).toArray] ∧ StaM N' (fullS 100) p ∧ ∀ z, VwM (cb bl (lnC z) 52 :: N') (fullV z) ⟨a1, c1, a2, c2, a3, c3, some ⟨bl, 0, none⟩, 2⟩
theorem full_mem {b0 b1 b2 b3 b4 b5 b6 b7 b8 b9 b10 : Nat} {N : Frag}
    (h1 : cb b1 [.int .i64 1, .int .i64 1, .int .i64 3, .int .i64 0, .int .i64 30, .int .i64 0] 87 ∈ N)
    (h2 : cb b2 [.int .i64 2, .int .i64 1, .int .i64 1, .int .i64 10] 85 ∈ N)
    (h3 : cb b3 [.int .i64 1, .int .i64 1, .int .i64 1, .int .u8 1, .int .i64 10, .int .i64 4] 83 ∈ N)
    (h4 : cb b4 [.int .i64 2, .int .i64 1, .int .i64 1, .bool false, .int .i64 10, .int .i64 7, .int .i64 1, .int .i64 20, .slice (some ⟨b6, 0, none⟩) 1 1, .int .i64 7, .int .i64 2, .int .i64 1, .bool true, .int .i64 1, .int .i64 2, .int .i64 0, .int .i64 5, .slice (some ⟨b5, 0, none⟩) 1 1] 81 ∈ N)
    (h5 : cb b5 [.int .i64 1, .int .i64 5] 78 ∈ N) (h6 : cb b6 [.int .i64 2, .int .i64 7] 78 ∈ N)
    (h7 : cb b7 [.int .i64 1, .int .i64 1, .int .i64 1, .int .u8 1, .int .i64 10, .int .i64 4, .int .i64 3, .int .i64 2, .int .i64 1, .int .u8 2, .int .i64 12, .int .i64 7] 76 ∈ N)
    (h8 : cb b8 [.int .i64 0, .int .i64 0, .int .i64 (-100), .int .i64 0, .int .i64 0, .int .i64 1, .int .i64 (-30), .int .i64 0, .int .i64 1, .int .i64 0, .int .i64 5, .int .i64 45, .int .i64 1, .int .i64 1, .int .i64 0, .int .i64 10, .int .i64 2, .int .i64 0, .int .i64 43, .int .i64 7, .int .i64 2, .int .i64 1, .int .i64 12, .int .i64 8] 74 ∈ N)
    (h9 : cb b9 [.string ⟨#[103, 111, 108, 100]⟩, .int .i64 2, .bool true] 72 ∈ N)
    (h10 : cb b10 [.string ⟨#[97]⟩, .bool true, .string ⟨#[98]⟩, .bool true, .string ⟨#[99]⟩, .bool false] 70 ∈ N) :
    FullR (cb b0 (lnC 50) 52 :: N) (.tuple #[.agg #[.int .i64 9, .int .i64 100, .int .i64 4, .int .i64 8, .slice (some ⟨b10, 0, none⟩) 3 3, .slice (some ⟨b9, 0, none⟩) 1 1, .slice (some ⟨b8, 0, none⟩) 6 6, .slice (some ⟨b7, 0, none⟩) 2 2, .slice (some ⟨b4, 0, none⟩) 2 2], .agg #[.slice (some ⟨b3, 0, none⟩) 1 1, .slice (some ⟨b2, 0, none⟩) 1 1, .slice (some ⟨b1, 0, none⟩) 1 1, .slice (some ⟨b0, 0, none⟩) 2 2]]) := by
  have k : ∀ {size n : Nat} {cs : List Value} {el : Nat → List Value}, ((List.range n).all fun j => decide (j * size + size ≤ cs.length)) = true → (∀ j, j < n → (cs.drop (j * size)).take size = el j) → ∀ j, j < n → j * size + size ≤ cs.length ∧ (cs.drop (j * size)).take size = el j := fun h1 h2 j hj => ⟨of_decide_eq_true ((List.all_eq_true.1 h1) j (List.mem_range.2 hj)), h2 j hj⟩
  have s10 : SlA N 2 (some ⟨b10, 0, none⟩) 3 3 (acl fullA) := sl_lit h10 (by decide) (k rfl fun j hj => by
    match j, hj with
    | 0, _ => rfl
    | 1, _ => rfl
    | 2, _ => rfl)
  have s9 : SlA N 3 (some ⟨b9, 0, none⟩) 1 1 (ing fullI) := sl_lit h9 (by decide) (k rfl fun j hj => by
    match j, hj with
    | 0, _ => rfl)
  have s8 : SlA N 4 (some ⟨b8, 0, none⟩) 6 6 (rwl fullR) := sl_lit h8 (by decide) (k rfl fun j hj => by
    match j, hj with
    | 0, _ => rfl
    | 1, _ => rfl
    | 2, _ => rfl
    | 3, _ => rfl
    | 4, _ => rfl
    | 5, _ => rfl)
  have s7 : SlA N 6 (some ⟨b7, 0, none⟩) 2 2 (odl fullO) := sl_lit h7 (by decide) (k rfl fun j hj => by
    match j, hj with
    | 0, _ => rfl
    | 1, _ => rfl)
  have s4 : SlA N 9 (some ⟨b4, 0, none⟩) 2 2 (ael fullU (fun j => if j = 0 then (some ⟨b6, 0, none⟩, 1) else (some ⟨b5, 0, none⟩, 1))) := sl_lit h4 (by decide) (k rfl fun j hj => by
    match j, hj with
    | 0, _ => rfl
    | 1, _ => rfl)
  have s6 : Bids N (some ⟨b6, 0, none⟩) 1 [⟨2, 7⟩] := sl_lit h6 (by decide) (k rfl fun j hj => by
    match j, hj with
    | 0, _ => rfl)
  have s5 : Bids N (some ⟨b5, 0, none⟩) 1 [⟨1, 5⟩] := sl_lit h5 (by decide) (k rfl fun j hj => by
    match j, hj with
    | 0, _ => rfl)
  have s3 : SlA N 6 (some ⟨b3, 0, none⟩) 1 1 (opl (fullV 50).opn) := sl_lit h3 (by decide) (k rfl fun j hj => by
    match j, hj with
    | 0, _ => rfl)
  have s2 : SlA N 4 (some ⟨b2, 0, none⟩) 1 1 (ltl (fullV 50).lots) := sl_lit h2 (by decide) (k rfl fun j hj => by
    match j, hj with
    | 0, _ => rfl)
  have s1 : SlA N 6 (some ⟨b1, 0, none⟩) 1 1 (psl (fullV 50).poss) := sl_lit h1 (by decide) (k rfl fun j hj => by
    match j, hj with
    | 0, _ => rfl)
  refine ⟨b0, N, ⟨some ⟨b10, 0, none⟩, 3, some ⟨b9, 0, none⟩, 1, some ⟨b8, 0, none⟩, 6, some ⟨b7, 0, none⟩, 2, some ⟨b4, 0, none⟩, 2, fun j => if j = 0 then (some ⟨b6, 0, none⟩, 1) else (some ⟨b5, 0, none⟩, 1)⟩, some ⟨b3, 0, none⟩, some ⟨b2, 0, none⟩, some ⟨b1, 0, none⟩, 1, 1, 1, rfl, rfl, ⟨s10, s9, s8, s7, s4, fun j hj => ?_⟩, fun z => ⟨s3.mono (List.subset_cons_self _ _), s2.mono (List.subset_cons_self _ _), s1.mono (List.subset_cons_self _ _), ?_⟩⟩
  · have hj : j < 2 := hj
    match j, hj with
    | 0, _ => exact s6
    | 1, _ => exact s5
  · have s0 : SlA (cb b0 (lnC z) 52 :: N) 5 (some ⟨b0, 0, none⟩) 2 2 (lnl (fullV z).lins) := sl_lit (List.Mem.head _) (by decide) (k rfl fun j hj => by
      match j, hj with
      | 0, _ => rfl
      | 1, _ => rfl)
    exact s0
set_option maxRecDepth 20000 in
set_option maxHeartbeats 8000000 in
theorem c_full (w0 : World) : Calls Tryz.prog 9 [].toArray w0 (RetF FullR w0) := by
  refine enter [.cell 0 29, .cell 1 35] Tryz.func9 rfl Tryz.ntmps9 rfl rfl ?_
  have H := St.start w0
  repeat' (first | refine y1 sg ?_ | refine y2 sg ?_ | refine y3 ?_ | refine y4 ?_ | refine y5 sg ?_ | refine y6 sg ?_ | refine y7 sg H ?_ | refine y8 sg H ?_ | (refine y9 H ?_; intro b w H) | (refine y10 sg H ?_; intro b w H) | (refine y11 sg H ?_; intro w H) | refine y12 ?_ | (refine' y30 ent34 ?_ ?_; rotate_left; exact c_Empty _; intro w hcl; replace H := H.ext hcl; clear hcl) | (refine' y31 ent34 ?_ ?_; rotate_left; exact (fun _ hcl => c_Empty _)) | ((with_reducible apply OX.buildA sg H); exact rfl; exact rfl; exact rfl; exact rfl; exact rfl; exact rfl; exact rfl; exact rfl; exact rfl; exact rfl; exact rfl; exact rfl; intro b w H _) | (refine CW.regionA mixed 4 ?_ ?_; exact rfl; intro w hcl; replace H := H.ext hcl; clear hcl) | ((with_reducible apply RA.nil); decide +kernel) | ((with_reducible apply RA.take 0); decide +kernel; exact rfl; exact rfl; exact rfl; exact rfl; (first | exact (fun w => pvn_ok sg rfl w)); exact rfl) | ((with_reducible apply RA.c1 0); exact rfl; decide +kernel; exact rfl) | ((with_reducible apply RA.c1 1); exact rfl; decide +kernel; exact rfl) | ((with_reducible apply RA.c1 2); exact rfl; decide +kernel; exact rfl) | ((with_reducible apply RA.c1 3); exact rfl; decide +kernel; exact rfl) | ((with_reducible apply RA.c2 0 1); exact rfl; decide +kernel; exact rfl; exact rfl) | ((with_reducible apply RA.c2 0 2); exact rfl; decide +kernel; exact rfl; exact rfl) | ((with_reducible apply RA.c2 0 3); exact rfl; decide +kernel; exact rfl; exact rfl) | ((with_reducible apply RA.c2 1 2); exact rfl; decide +kernel; exact rfl; exact rfl) | ((with_reducible apply RA.c2 1 3); exact rfl; decide +kernel; exact rfl; exact rfl) | ((with_reducible apply RA.c2 2 3); exact rfl; decide +kernel; exact rfl; exact rfl) | ((with_reducible apply RA.c3 0 1 2); exact rfl; decide +kernel; exact rfl; exact rfl; exact rfl) | ((with_reducible apply RA.c3 0 1 3); exact rfl; decide +kernel; exact rfl; exact rfl; exact rfl) | ((with_reducible apply RA.c3 0 2 3); exact rfl; decide +kernel; exact rfl; exact rfl; exact rfl) | ((with_reducible apply RA.c3 1 2 3); exact rfl; decide +kernel; exact rfl; exact rfl; exact rfl) | refine y13 ?_ | refine y14 ?_ | refine y15 ?_ | refine y16 ?_ | (refine y17 ?_ ?_; all_goals intro h) | (refine y18 ?_ ?_; all_goals intro h) | with_reducible apply OW.app | with_reducible apply OW.app0 | with_reducible apply QW.app | with_reducible apply QW.app0 | with_reducible apply OW.nil | (with_reducible apply QW.nil; intro w hcl; replace H := H.ext hcl; clear hcl) | refine y19 ?_ | with_reducible apply thn_n | with_reducible apply CW.seq | refine CW.region ?_ | with_reducible apply CW.block | with_reducible apply CW.ret | with_reducible apply CW.exit | with_reducible apply CW.skip | with_reducible apply thn_r | with_reducible apply thn_e | with_reducible apply blk_n | with_reducible apply blk_r | refine y24 ?_ | refine y25 ?_ | refine y21 ?_ | refine y22 ?_ | fail)
  all_goals exact retVF (vs := [_, _]) ⟨rdvC sg rfl H.mem (by repeat (first | exact List.Mem.head _ | exact List.mem_append_right _ (List.Mem.head _) | refine List.Mem.tail _ ?_)) rfl rfl, rdvC sg rfl H.mem (by repeat (first | exact List.Mem.head _ | exact List.mem_append_right _ (List.Mem.head _) | refine List.Mem.tail _ ?_)) rfl rfl, trivial⟩ (H.perm (List.Perm.swap _ _ _)) (full_mem (by repeat (first | exact List.Mem.head _ | exact List.mem_append_right _ (List.Mem.head _) | refine List.Mem.tail _ ?_)) (by repeat (first | exact List.Mem.head _ | exact List.mem_append_right _ (List.Mem.head _) | refine List.Mem.tail _ ?_)) (by repeat (first | exact List.Mem.head _ | exact List.mem_append_right _ (List.Mem.head _) | refine List.Mem.tail _ ?_)) (by repeat (first | exact List.Mem.head _ | exact List.mem_append_right _ (List.Mem.head _) | refine List.Mem.tail _ ?_)) (by repeat (first | exact List.Mem.head _ | exact List.mem_append_right _ (List.Mem.head _) | refine List.Mem.tail _ ?_)) (by repeat (first | exact List.Mem.head _ | exact List.mem_append_right _ (List.Mem.head _) | refine List.Mem.tail _ ?_)) (by repeat (first | exact List.Mem.head _ | exact List.mem_append_right _ (List.Mem.head _) | refine List.Mem.tail _ ?_)) (by repeat (first | exact List.Mem.head _ | exact List.mem_append_right _ (List.Mem.head _) | refine List.Mem.tail _ ?_)) (by repeat (first | exact List.Mem.head _ | exact List.mem_append_right _ (List.Mem.head _) | refine List.Mem.tail _ ?_)) (by repeat (first | exact List.Mem.head _ | exact List.mem_append_right _ (List.Mem.head _) | refine List.Mem.tail _ ?_)))
theorem c_shut (bd : ByteArray) (hb : bd.size ≤ 140737488355000) (e0 : Int) (hE : ∀ n x y e, OpenA (strL bd) n x y e → e = e0 ∧ n = 0 ∧ x = Sta.zero ∧ y = Vws.zero) (hW : ∀ q b, HdOk (openL (strL bd)).1 q b → (openL (strL bd)).2 = 0 → RdW b) (w0 : World) :
    Calls Tryz.prog 17 [.string bd, .int .i64 e0].toArray w0 (Ret (.bool true) w0) := by
  have hself : (e0 == e0) = true := by simp
  have sz : ∀ {G : Frag} (px : SPt) (w : World), Mem w G → StaM G Sta.zero px → Calls Tryz.prog 13 [.agg (Sta.zero.cells px).toArray, .agg (Sta.zero.cells SPt.zero).toArray].toArray w (Ret (.bool true) w) := fun px w hM hx => by
    have := c_stSame Sta.zero Sta.zero px SPt.zero w hM hx StaM.zero
    rw [isEq_iff.2 rfl] at this
    exact this
  have vz : ∀ {G : Frag} (px : VPt) (w : World), Mem w G → VwM G Vws.zero px → Calls Tryz.prog 14 [.agg (Vws.zero.cells px).toArray, .agg (Vws.zero.cells VPt.zero).toArray].toArray w (Ret (.bool true) w) := fun px w hM hx => by
    have := c_vwSame Vws.zero Vws.zero px VPt.zero w hM hx VwM.zero
    rw [isEq_iff.2 rfl] at this
    exact this
  refine enter [.tmp 4] Tryz.func17 rfl Tryz.ntmps17 rfl rfl ?_
  have H := St.start w0
  repeat' (first | refine y1 sg ?_ | refine y2 sg ?_ | refine y3 ?_ | refine y4 ?_ | refine y5 sg ?_ | refine y6 sg ?_ | refine y7 sg H ?_ | refine y8 sg H ?_ | (refine y9 H ?_; intro b w H) | (refine y10 sg H ?_; intro b w H) | (refine y11 sg H ?_; intro w H) | refine y12 ?_ | (refine' y32 ent12 ?_ ?_; rotate_left; exact c_sOpen bd hb hW _; intro vv M w hR hS; replace H := H.addR hS; clear hS; (try simp only [List.cons_append, List.nil_append] at H); obtain ⟨n, x, px, y, qy, e, rfl, hxm, hym, hoa⟩ := hR; obtain ⟨rfl, rfl, rfl, rfl⟩ := hE _ _ _ _ hoa) | (refine' y30 ent13 ?_ ?_; rotate_left; exact sz px _ H.mem (hxm.mono (by intro p hp; simp [hp])); intro w hcl; replace H := H.ext hcl; clear hcl) | (refine' y31 ent13 ?_ ?_; rotate_left; exact (fun _ hcl => sz px _ (H.ext hcl).mem (hxm.mono (by intro p hp; simp [hp])))) | (refine' y30 ent14 ?_ ?_; rotate_left; exact vz qy _ H.mem (hym.mono (by intro p hp; simp [hp])); intro w hcl; replace H := H.ext hcl; clear hcl) | (refine' y31 ent14 ?_ ?_; rotate_left; exact (fun _ hcl => vz qy _ (H.ext hcl).mem (hym.mono (by intro p hp; simp [hp])))) | refine y13 ?_ | refine y14 ?_ | refine y15 ?_ | refine y16 ?_ | (refine y17 ?_ ?_; all_goals (intro h; try (exfalso; first | ((rw [hself] at h; cases h); done)))) | (refine y18 ?_ ?_; all_goals (intro h; try (exfalso; first | ((rw [hself] at h; cases h); done)))) | with_reducible apply OW.app | with_reducible apply OW.app0 | with_reducible apply QW.app | with_reducible apply QW.app0 | with_reducible apply OW.nil | (with_reducible apply QW.nil; intro w hcl; replace H := H.ext hcl; clear hcl) | refine y19 ?_ | with_reducible apply thn_n | with_reducible apply CW.seq | refine CW.region ?_ | refine y20 mixed ?_ | with_reducible apply CW.block | with_reducible apply CW.ret | with_reducible apply CW.exit | with_reducible apply CW.skip | with_reducible apply thn_r | with_reducible apply thn_e | with_reducible apply blk_n | with_reducible apply blk_r | refine y24 ?_ | refine y25 ?_ | refine y21 ?_ | refine y22 ?_ | (refine y23 ?_ ?_; all_goals (intro h; try (exfalso; first | ((rw [hself] at h; cases h); done)))) | fail)
  all_goals first
    | exact ret1 rfl H.cl rfl
    | trace_state
end Go.Proofs.YtggolnppckpdlaaGreat
set_option linter.unusedSimpArgs false
set_option linter.unusedVariables false
namespace Go.Proofs.YtggolnppckpdlaaGreat
open Go Go.Sk Go.RowKit
attribute [local irreducible] Go.Calls
theorem sub_ca {a : Nat × Obj} {N G : Frag} {x : Nat × Obj} (h : x ∈ a :: N) : x ∈ a :: (N ++ G) := by
  rcases List.mem_cons.1 h with rfl | h
  · exact List.Mem.head _
  · exact List.Mem.tail _ (List.mem_append_left _ h)
theorem sz0 (f z : Int) (h : -9223372036854775808 ≤ z ∧ z ≤ 9223372036854775807) {G : Frag} (p : SPt) (q : VPt) (w : World) (hM : Mem w G) (hs : StaM G (fullS f) p) (hv : VwM G (fullV z) q) :
    Calls Tryz.prog 10 [.agg ((fullS f).cells p).toArray, .agg ((fullV z).cells q).toArray].toArray w (Ret (.tuple #[.string (bytesOf (bodyF (fullS f) (fullV z)).1), .int .i64 (bodyF (fullS f) (fullV z)).2]) w) :=
  c_Body (fullS f) p (fullV z) q (snW_full f z h) w hM hs hv
theorem sf0 (n f z : Int) (h : -9223372036854775808 ≤ z ∧ z ≤ 9223372036854775807) {G : Frag} (p : SPt) (q : VPt) (w : World) (hM : Mem w G) (hs : StaM G (fullS f) p) (hv : VwM G (fullV z) q) :
    Calls Tryz.prog 11 [.int .i64 n, .agg ((fullS f).cells p).toArray, .agg ((fullV z).cells q).toArray].toArray w (Ret (.tuple #[.string (bytesOf (fileF n (fullS f) (fullV z)).1), .int .i64 (fileF n (fullS f) (fullV z)).2]) w) :=
  c_File n (fullS f) p (fullV z) q (snW_full f z h) w hM hs hv
theorem StaM.fee {G : Frag} {f g : Int} {p : SPt} (h : StaM G (fullS f) p) : StaM G (fullS g) p := ⟨h.ac, h.ins, h.rw, h.od, h.au⟩
theorem open_FF {f : ByteArray} (hf : strL f = FF) (w : World) : Calls Tryz.prog 12 [.string f].toArray w (RetF (fun N v => ∃ p q, v = .tuple #[.int .i64 1048576, .agg ((fullS 100).cells p).toArray, .agg ((fullV 50).cells q).toArray, .int .i64 0] ∧ StaM N (fullS 100) p ∧ VwM N (fullV 50) q) w) := by
  have hl := strL_len f
  have hB := FB_len
  rw [hf, FF_len] at hl
  have hh : HdOk (headL 1048576 FB) 1048576 FB := ⟨by decide, rfl⟩
  refine Calls.mono (c_sOpen f (by omega) (by
    rw [hf]
    unfold FF
    rw [open_seal]
    intro q b h _
    rw [h.inj hh]
    exact rdw_light (light_full _) (staA_full _) (vwA_full 50 ⟨by decide, by decide⟩) may_full view_full) w) ?_
  rintro e w' ⟨v', N, he, ⟨n', x, p, y, q, e', rfl, hx, hy, ha⟩, hst⟩
  rw [hf] at ha
  obtain ⟨rfl, rfl, rfl, rfl⟩ := ha.file (by rw [headL_len]; omega) hh rd_full
  exact ⟨_, N, he, ⟨p, q, rfl, hx, hy⟩, hst⟩
theorem same_S {G : Frag} (p p' : SPt) (w : World) (hM : Mem w G) (hs : StaM G (fullS 100) p) (hs' : StaM G (fullS 100) p') : Calls Tryz.prog 13 [.agg ((fullS 100).cells p).toArray, .agg ((fullS 100).cells p').toArray].toArray w (Ret (.bool true) w) := by
  have := c_stSame (fullS 100) (fullS 100) p p' w hM hs hs'
  rw [isEq_iff.2 rfl] at this
  exact this
theorem same_V {G : Frag} (p p' : VPt) (w : World) (hM : Mem w G) (hs : VwM G (fullV 50) p) (hs' : VwM G (fullV 50) p') : Calls Tryz.prog 14 [.agg ((fullV 50).cells p).toArray, .agg ((fullV 50).cells p').toArray].toArray w (Ret (.bool true) w) := by
  have := c_vwSame (fullV 50) (fullV 50) p p' w hM hs hs'
  rw [isEq_iff.2 rfl] at this
  exact this
theorem is_FB {G : Frag} {f : ByteArray} (hf : strL f = FB) (p : SPt) (q : VPt) (w : World) (hM : Mem w G) (hs : StaM G (fullS 100) p) (hv : VwM G (fullV 50) q) : Calls Tryz.prog 15 [.string f, .agg ((fullS 100).cells p).toArray, .agg ((fullV 50).cells q).toArray].toArray w (Ret (.bool true) w) := by
  have hB := FB_len
  have := c_is f (by rw [← strL_len, hf]; omega) (fullS 100) p (fullV 50) q (by rw [hf]; exact rdw_light (light_full _) (staA_full _) (vwA_full 50 ⟨by decide, by decide⟩) may_full view_full) w hM hs hv
  rw [hf, isR_iff.2 ⟨by omega, rd_full⟩] at this
  exact this
theorem none_yes {d : ByteArray} {B : List Nat} {e : Int} (hd : strL d = B) (hl : B.length ≤ 2000000) (hW : RdW B) (hE : ReadE B e) (he : e ≠ 0) (w : World) : Calls Tryz.prog 18 [.string d, .int .i64 e].toArray w (Ret (.bool true) w) := by
  have := c_none d (by rw [← strL_len, hd]; omega) e he (by rw [hd]; exact hW) w
  rw [hd, noneR_iff.2 hE] at this
  exact this
theorem shut_sum {d : ByteArray} {B : List Nat} {c : Int} (hd : strL d = B) (hl : B.length ≤ 1048576) (hc : (openL B).2 = c) (h0 : c ≠ 0) (w : World) : Calls Tryz.prog 17 [.string d, .int .i64 c].toArray w (Ret (.bool true) w) :=
  c_shut d (by rw [← strL_len, hd]; omega) c (fun n x y e h => by rw [hd] at h; exact h.err hl hc h0) (fun q b _ h => by rw [hd, hc] at h; exact absurd h h0) w
theorem shut_big {d : ByteArray} {B : List Nat} (hd : strL d = B) (hl : 1048576 < B.length) (hl2 : B.length ≤ 2000000) (hW : ∀ q b, ¬ HdOk (openL B).1 q b) (w : World) : Calls Tryz.prog 17 [.string d, .int .i64 40].toArray w (Ret (.bool true) w) :=
  c_shut d (by rw [← strL_len, hd]; omega) 40 (fun n x y e h => by rw [hd] at h; exact h.large hl) (fun q b h _ => by rw [hd] at h; exact absurd h (hW q b)) w
theorem zeros_head (n q : Nat) (b : List Nat) : ¬ HdOk (openL (List.replicate n 0)).1 q b := by
  rintro ⟨_, h⟩
  have h0 : ∀ x ∈ (openL (List.replicate n 0)).1, x = 0 := by
    unfold openL
    intro x hx
    split at hx
    · cases hx
    · split at hx
      · exact List.eq_of_mem_replicate (List.mem_of_mem_take hx)
      · cases hx
  have := h0 115 (by rw [h]; exact List.Mem.head _)
  cases this
theorem byt_get {l : List Nat} (h : Byt l) (p : Nat) : l.getD p 0 < 256 := by
  rw [List.getD_eq_getElem?_getD]
  cases hq : l[p]? with
  | none => exact (by decide : 0 < 256)
  | some a => exact h a (List.mem_of_getElem? hq)
theorem FB_len2 : FB.length ≤ 1000 := by
  decide +kernel
theorem slL (b : Nat) (z : Int) : SlB [cb b (lnC z) 52] 5 (some ⟨b, 0, none⟩) 2 b 0 (lnC z) 52 (0, 0) (lnl (fullL z)) := fun _ => ⟨rfl, List.Mem.head _, fun j hj => by
  match j, hj with
  | 0, _ => exact ⟨of_decide_eq_true rfl, rfl⟩
  | 1, _ => exact ⟨of_decide_eq_true rfl, rfl⟩⟩
theorem permN {a b c d : Nat × Obj} (N M : Frag) : (a :: b :: c :: (N ++ d :: M)).Perm (d :: a :: b :: c :: (N ++ M)) := List.perm_middle (l₁ := a :: b :: c :: N)
theorem sub_d {a b c d : Nat × Obj} {N M : Frag} {x : Nat × Obj} (h : x ∈ d :: M) : x ∈ d :: a :: b :: c :: (N ++ M) := by
  rcases List.mem_cons.1 h with rfl | h
  · exact List.Mem.head _
  · exact List.Mem.tail _ (List.Mem.tail _ (List.Mem.tail _ (List.Mem.tail _ (List.mem_append_right _ h))))
theorem zero_big : RdW (List.replicate 1048557 0) := by
  have := rdw_zeros 1048544
  rwa [show 9 + (4 + 1048544) = 1048557 from rfl] at this
theorem zero_most : RdW (List.replicate 1048556 0) := by
  have := rdw_zeros 1048543
  rwa [show 9 + (4 + 1048543) = 1048556 from rfl] at this
theorem zero_none (x : Sta) (y : Vws) : ¬ RdOk (List.replicate 1048556 0) x y := by
  have := no_zeros 1048547 x y
  rwa [show 9 + 1048547 = 1048556 from rfl] at this
theorem bz (k : Nat) : strL (bytesOf (List.replicate k 0)) = List.replicate k 0 := strL_bytesOf (by intro y hy; have := List.eq_of_mem_replicate hy; omega)
theorem n5 : ∀ w, Calls Tryz.prog 18 [.string (bytesOf (List.replicate 1048557 0)), .int .i64 40].toArray w (Ret (.bool true) w) := by
  have hl : (List.replicate 1048557 0).length = 1048557 := List.length_replicate
  exact none_yes (B := List.replicate 1048557 0) (bz 1048557) (by rw [hl]; decide) zero_big (.inr ⟨rfl, by rw [hl]; decide⟩) (by decide)
theorem n6 : ∀ w, Calls Tryz.prog 18 [.string (bytesOf (List.replicate 1048556 0)), .int .i64 4].toArray w (Ret (.bool true) w) := by
  have hl : (List.replicate 1048556 0).length = 1048556 := List.length_replicate
  exact none_yes (B := List.replicate 1048556 0) (bz 1048556) (by rw [hl]; decide) zero_most (.inl ⟨rfl, by rw [hl]; decide, zero_none⟩) (by decide)
theorem s6 : ∀ w, Calls Tryz.prog 17 [.string (bytesOf (List.replicate 1048577 0)), .int .i64 40].toArray w (Ret (.bool true) w) := by
  have hl : (List.replicate 1048577 0).length = 1048577 := List.length_replicate
  exact shut_big (B := List.replicate 1048577 0) (bz 1048577) (by rw [hl]; decide) (by rw [hl]; decide) (zeros_head 1048577)
set_option maxRecDepth 20000 in
set_option maxHeartbeats 16000000 in
theorem c_Names (w0 : World) : Calls Tryz.prog 3 [].toArray w0 (Ret (.bool true) w0) := by
  have hFBl := FB_len
  have hFFl := FF_len
  have hFBp := FB_pos
  have hFB2 := FB_len2
  have CB1 := @sz0 100 50 ⟨by decide, by decide⟩
  have CB2 := @sz0 1001 50 ⟨by decide, by decide⟩
  have CB3 := @sz0 100 51 ⟨by decide, by decide⟩
  have CF1 := @sf0 1048576 100 50 ⟨by decide, by decide⟩
  have CF2 := @sf0 (-1) 1001 50 ⟨by decide, by decide⟩
  have CF3 := @sf0 1048577 100 50 ⟨by decide, by decide⟩
  have CF4 := @sf0 5 1001 50 ⟨by decide, by decide⟩
  rw [body_full] at CB1
  rw [body_badS] at CB2
  rw [body_badV] at CB3
  rw [file_full] at CF1
  rw [file_neg] at CF2
  rw [file_big] at CF3
  rw [file_bad] at CF4
  simp only at CB1 CB2 CB3 CF1 CF2 CF3 CF4
  obtain ⟨B, hB⟩ : ∃ B, bytesOf FB = B := ⟨_, rfl⟩
  obtain ⟨f, hf⟩ : ∃ f, bytesOf FF = f := ⟨_, rfl⟩
  have hBs : strL B = FB := by rw [← hB]; exact strL_bytesOf FB_byt
  have hfs : strL f = FF := by rw [← hf]; exact strL_bytesOf FF_byt
  have hBl : B.size = FB.length := by rw [← strL_len, hBs]
  have hfl : f.size = FF.length := by rw [← strL_len, hfs]
  rw [hB] at CB1
  rw [hf] at CF1
  have CO := fun w => open_FF hfs w
  have klen : ((f.size : Int) != IntKind.i64.wrap ((B.size : Int) + 20)) = false := by
    rw [w64 (by omega) (by omega)]
    simp; omega
  refine enter [.tmp 0] Tryz.func3 rfl Tryz.ntmps3 rfl rfl ?_
  have H := St.start w0
  repeat' (first | refine y1 sg ?_ | refine y2 sg ?_ | refine y3 ?_ | refine y4 ?_ | refine y5 sg ?_ | refine y6 sg ?_ | refine y7 sg H ?_ | refine y8 sg H ?_ | (refine y9 H ?_; intro b w H) | (refine y10 sg H ?_; intro b w H) | (refine y11 sg H ?_; intro w H) | refine y12 ?_ | (refine' y30 ent8 ?_ ?_; rotate_left; exact c_works _; intro w hcl; replace H := H.ext hcl; clear hcl) | (refine' y31 ent8 ?_ ?_; rotate_left; exact (fun _ hcl => c_works _)) | (refine' y32 ent9 ?_ ?_; rotate_left; exact c_full _; intro vv M w hR hS; replace H := H.addR hS; clear hS; (try simp only [List.cons_append, List.nil_append] at H); obtain ⟨bl, N1, p, a1, a2, a3, c1, c2, c3, rfl, rfl, hsm, hvm⟩ := hR; replace hvm := hvm 50; generalize hq : (⟨a1, c1, a2, c2, a3, c3, some ⟨bl, 0, none⟩, 2⟩ : VPt) = q at hvm ⊢) | (refine' y30 ent10 ?_ ?_; rotate_left; exact CB1 p q _ H.mem (hsm.mono (by intro x hx; simp [hx])) (hvm.mono (by intro x hx; repeat (first | exact hx | exact sub_ca hx | exact List.mem_append_right _ hx | exact List.mem_append_right _ (List.mem_cons_of_mem _ (List.mem_cons_of_mem _ hx)) | apply List.mem_cons_of_mem))); intro w hcl; replace H := H.ext hcl; clear hcl) | (refine' y31 ent10 ?_ ?_; rotate_left; exact (fun _ hcl => CB1 p q _ (H.ext hcl).mem (hsm.mono (by intro x hx; simp [hx])) (hvm.mono (by intro x hx; repeat (first | exact hx | exact sub_ca hx | exact List.mem_append_right _ hx | exact List.mem_append_right _ (List.mem_cons_of_mem _ (List.mem_cons_of_mem _ hx)) | apply List.mem_cons_of_mem))))) | (refine' y30 ent11 ?_ ?_; rotate_left; exact CF1 p q _ H.mem (hsm.mono (by intro x hx; simp [hx])) (hvm.mono (by intro x hx; repeat (first | exact hx | exact sub_ca hx | exact List.mem_append_right _ hx | exact List.mem_append_right _ (List.mem_cons_of_mem _ (List.mem_cons_of_mem _ hx)) | apply List.mem_cons_of_mem))); intro w hcl; replace H := H.ext hcl; clear hcl) | (refine' y31 ent11 ?_ ?_; rotate_left; exact (fun _ hcl => CF1 p q _ (H.ext hcl).mem (hsm.mono (by intro x hx; simp [hx])) (hvm.mono (by intro x hx; repeat (first | exact hx | exact sub_ca hx | exact List.mem_append_right _ hx | exact List.mem_append_right _ (List.mem_cons_of_mem _ (List.mem_cons_of_mem _ hx)) | apply List.mem_cons_of_mem))))) | (refine' y32 ent12 ?_ ?_; rotate_left; exact CO _; intro vv M w hR hS; replace H := H.addR hS; clear hS; (try simp only [List.cons_append, List.nil_append] at H); obtain ⟨po, qo, rfl, hso, hvo⟩ := hR) | (refine' y30 ent13 ?_ ?_; rotate_left; exact same_S po p _ H.mem (hso.mono (by intro x hx; simp [hx])) (hsm.mono (by intro x hx; simp [hx])); intro w hcl; replace H := H.ext hcl; clear hcl) | (refine' y31 ent13 ?_ ?_; rotate_left; exact (fun _ hcl => same_S po p _ (H.ext hcl).mem (hso.mono (by intro x hx; simp [hx])) (hsm.mono (by intro x hx; simp [hx])))) | (refine' y30 ent14 ?_ ?_; rotate_left; exact same_V qo q _ H.mem (hvo.mono (by intro x hx; simp [hx])) (hvm.mono (by intro x hx; repeat (first | exact hx | exact sub_ca hx | exact List.mem_append_right _ hx | exact List.mem_append_right _ (List.mem_cons_of_mem _ (List.mem_cons_of_mem _ hx)) | apply List.mem_cons_of_mem))); intro w hcl; replace H := H.ext hcl; clear hcl) | (refine' y31 ent14 ?_ ?_; rotate_left; exact (fun _ hcl => same_V qo q _ (H.ext hcl).mem (hvo.mono (by intro x hx; simp [hx])) (hvm.mono (by intro x hx; repeat (first | exact hx | exact sub_ca hx | exact List.mem_append_right _ hx | exact List.mem_append_right _ (List.mem_cons_of_mem _ (List.mem_cons_of_mem _ hx)) | apply List.mem_cons_of_mem))))) | (refine' y30 ent15 ?_ ?_; rotate_left; exact is_FB hBs p q _ H.mem (hsm.mono (by intro x hx; simp [hx])) (hvm.mono (by intro x hx; repeat (first | exact hx | exact sub_ca hx | exact List.mem_append_right _ hx | exact List.mem_append_right _ (List.mem_cons_of_mem _ (List.mem_cons_of_mem _ hx)) | apply List.mem_cons_of_mem))); intro w hcl; replace H := H.ext hcl; clear hcl) | (refine' y31 ent15 ?_ ?_; rotate_left; exact (fun _ hcl => is_FB hBs p q _ (H.ext hcl).mem (hsm.mono (by intro x hx; simp [hx])) (hvm.mono (by intro x hx; repeat (first | exact hx | exact sub_ca hx | exact List.mem_append_right _ hx | exact List.mem_append_right _ (List.mem_cons_of_mem _ (List.mem_cons_of_mem _ hx)) | apply List.mem_cons_of_mem))))) | refine y13 ?_ | refine y14 ?_ | refine y15 ?_ | refine y16 ?_ | (refine y17 ?_ ?_; all_goals (intro h; try (exfalso; first | ((rw [klen] at h; cases h); done)))) | (refine y18 ?_ ?_; all_goals (intro h; try (exfalso; first | ((rw [klen] at h; cases h); done)))) | with_reducible apply OW.app | with_reducible apply OW.app0 | with_reducible apply QW.app | with_reducible apply QW.app0 | with_reducible apply OW.nil | (with_reducible apply QW.nil; intro w hcl; replace H := H.ext hcl; clear hcl) | refine y19 ?_ | with_reducible apply thn_n | with_reducible apply CW.seq | refine CW.region ?_ | refine y20 mixed ?_ | with_reducible apply CW.block | with_reducible apply CW.ret | with_reducible apply CW.exit | with_reducible apply CW.skip | with_reducible apply thn_r | with_reducible apply thn_e | with_reducible apply blk_n | with_reducible apply blk_r | refine y24 ?_ | refine y25 ?_ | refine y21 ?_ | refine y22 ?_ | fail)
  refine CW.cond rfl (fun h => absurd h (by rw [klen]; decide)) (fun h => ?_)
  clear h hso hvo
  repeat' (first | refine y1 sg ?_ | refine y2 sg ?_ | refine y3 ?_ | refine y4 ?_ | refine y5 sg ?_ | refine y6 sg ?_ | refine y7 sg H ?_ | refine y8 sg H ?_ | (refine y9 H ?_; intro b w H) | (refine y10 sg H ?_; intro b w H) | (refine y11 sg H ?_; intro w H) | refine y12 ?_ | refine y13 ?_ | refine y14 ?_ | refine y15 ?_ | refine y16 ?_ | (refine y17 ?_ ?_; all_goals intro h) | (refine y18 ?_ ?_; all_goals intro h) | with_reducible apply OW.app | with_reducible apply OW.app0 | with_reducible apply QW.app | with_reducible apply QW.app0 | with_reducible apply OW.nil | (with_reducible apply QW.nil; intro w hcl; replace H := H.ext hcl; clear hcl) | refine y19 ?_ | with_reducible apply thn_n | with_reducible apply CW.seq | refine CW.region ?_ | refine y20 mixed ?_ | with_reducible apply CW.block | with_reducible apply CW.ret | with_reducible apply CW.exit | with_reducible apply CW.skip | with_reducible apply thn_r | with_reducible apply thn_e | with_reducible apply blk_n | with_reducible apply blk_r | refine y24 ?_ | refine y25 ?_ | refine y21 ?_ | refine y22 ?_ | fail)
  refine CW.loopI [(0, 0), (11, 15), (94, 156)] (fun i : Nat => [(11, .int .i64 (i : Int))]) (fun i w => St w0 (cb _ ((fullV 50).cells q) 35 :: cb _ ((fullS 100).cells p) 29 :: cb bl (lnC 50) 52 :: N1) w ∧ i ≤ FB.length) (fun i => FB.length - i) 0 ⟨rfl, trivial⟩ ⟨H.sub (List.Sublist.cons _ (List.Sublist.cons _ (((List.sublist_append_left N1 _).cons_cons _).cons_cons _ |>.cons_cons _))), Nat.zero_le _⟩ ?_
  clear H
  rintro i gh w ⟨H, hi⟩
  by_cases hib : i < FB.length
  · have d1 : decide ((i : Int) < (B.size : Int)) = true := decide_eq_true (by omega)
    have hx := byt_get FB_byt i
    have hX8 : IntKind.u8.wrap ((BitVec.ofInt IntKind.u8.bits ((FB.getD i 0 : Nat) : Int) ^^^ BitVec.ofInt IntKind.u8.bits 1).toNat : Int) = ((FB.getD i 0 ^^^ 1 : Nat) : Int) := xor8 _ 1 hx (by decide)
    have hxb : FB.getD i 0 ^^^ 1 < 256 := xor_byte hx (by decide)
    obtain ⟨X, hX⟩ : ∃ X, FB.set i (FB.getD i 0 ^^^ 1) = X := ⟨_, rfl⟩
    have hXl : X.length = FB.length := by rw [← hX, List.length_set]
    have hXi : X.getD i 0 = FB.getD i 0 ^^^ 1 := by rw [← hX, set_getD hib, if_pos rfl]
    have hXb : Byt X := by
      intro y hy
      rw [← hX] at hy
      rcases List.mem_or_eq_of_mem_set hy with h | h
      · exact FB_byt y h
      · rw [h]; exact hxb
    have hXne : X ≠ FB := fun h => by
      have h2 : FB.getD i 0 ^^^ 1 = FB.getD i 0 ^^^ 0 := by rw [← hXi, h, Nat.xor_zero]
      have := xor_left h2
      cases this
    have hXs : strL (bytesOf X) = X := strL_bytesOf hXb
    have hno : ∀ x y, RdOk (strL (bytesOf X)) x y → isEq x (fullS 100) = false ∨ (isEq x (fullS 100) = true ∧ isEq y (fullV 50) = false) := by
      intro x y h
      rw [hXs] at h
      cases e1 : isEq x (fullS 100) with
      | false => exact .inl rfl
      | true =>
        cases e2 : isEq y (fullV 50) with
        | false => exact .inr ⟨rfl, rfl⟩
        | true =>
          obtain rfl := isEq_iff.1 e1
          obtain rfl := isEq_iff.1 e2
          exact absurd h.body hXne
    have hRW : RdW (strL (bytesOf X)) := by
      rw [hXs]
      exact RdW.short (by rw [hXl]; omega)
    have CR := fun w => c_Read (bytesOf X) (by rw [bytesOf_len]; omega) hRW w
    repeat' (first | refine y1 sg ?_ | refine y2 sg ?_ | refine y3 ?_ | refine y4 ?_ | refine y5 sg ?_ | refine y6 sg ?_ | refine y7 sg H ?_ | refine y8 sg H ?_ | (refine y9 H ?_; intro b w H) | (refine y10 sg H ?_; intro b w H) | (refine y11 sg H ?_; intro w H) | refine y12 ?_ | (refine OX.bytesO sg H rfl rfl rfl rfl rfl rfl rfl rfl rfl rfl ?_; intro b z fz w hfz H) | refine y13 ?_ | refine y14 ?_ | refine y15 ?_ | refine y16 ?_ | (refine y17 ?_ ?_; all_goals (intro h; try (exfalso; first | ((rw [d1] at h; cases h); done)))) | (refine y18 ?_ ?_; all_goals (intro h; try (exfalso; first | ((rw [d1] at h; cases h); done)))) | with_reducible apply OW.app | with_reducible apply OW.app0 | with_reducible apply QW.app | with_reducible apply QW.app0 | with_reducible apply OW.nil | (with_reducible apply QW.nil; intro w hcl; replace H := H.ext hcl; clear hcl) | refine y19 ?_ | with_reducible apply thn_n | with_reducible apply CW.seq | refine CW.region ?_ | refine y20 mixed ?_ | with_reducible apply CW.block | with_reducible apply CW.ret | with_reducible apply CW.exit | with_reducible apply CW.skip | with_reducible apply thn_r | with_reducible apply thn_e | with_reducible apply blk_n | with_reducible apply blk_r | refine y24 ?_ | refine y25 ?_ | refine y21 ?_ | refine y22 ?_ | fail)
    refine CW.cond rfl (fun h => ?_) (fun h => absurd d1 (by rw [h]; decide))
    clear h
    repeat' (first | refine y1 sg ?_ | refine y2 sg ?_ | refine y3 ?_ | refine y4 ?_ | refine y5 sg ?_ | refine y6 sg ?_ | refine y7 sg H ?_ | refine y8 sg H ?_ | (refine y9 H ?_; intro b w H) | (refine y10 sg H ?_; intro b w H) | (refine y11 sg H ?_; intro w H) | refine y12 ?_ | (refine OX.bytesO sg H rfl rfl rfl rfl rfl rfl rfl rfl rfl rfl ?_; intro b z fz w hfz H) | refine y13 ?_ | refine y14 ?_ | refine y15 ?_ | refine y16 ?_ | (refine y17 ?_ ?_; all_goals intro h) | (refine y18 ?_ ?_; all_goals intro h) | with_reducible apply OW.app | with_reducible apply OW.app0 | with_reducible apply QW.app | with_reducible apply QW.app0 | with_reducible apply OW.nil | (with_reducible apply QW.nil; intro w hcl; replace H := H.ext hcl; clear hcl) | refine y19 ?_ | with_reducible apply thn_n | with_reducible apply CW.seq | refine CW.region ?_ | refine y20 mixed ?_ | with_reducible apply CW.block | with_reducible apply CW.ret | with_reducible apply CW.exit | with_reducible apply CW.skip | with_reducible apply thn_r | with_reducible apply thn_e | with_reducible apply blk_n | with_reducible apply blk_r | refine y24 ?_ | refine y25 ?_ | refine y21 ?_ | refine y22 ?_ | fail)
    have hS := sl_u8 (l := FB) (z := z) (b := b) (E := 5) (fr := (fz, fz + 1)) (F := [(b, Obj.cells (u8L FB ++ List.replicate z (Value.int .u8 0)).toArray 5 (fz, fz + 1))]) (List.Mem.head _)
    rw [← hBl] at hS
    rw [hBs] at H
    repeat' (first | refine y1 sg ?_ | refine y2 sg ?_ | refine y3 ?_ | refine y4 ?_ | refine y5 sg ?_ | refine y6 sg ?_ | refine y7 sg H ?_ | refine y8 sg H ?_ | (refine y9 H ?_; intro b w H) | (refine y10 sg H ?_; intro b w H) | (refine y11 sg H ?_; intro w H) | refine y12 ?_ | (refine y40 sg (hS) ?_ ?_ ?_; (omega); (omega)) | (refine y41 sg (hS) ?_ ?_ ?_; (omega); (omega)) | (refine y46 sg (hS) ((H.mem.sub (by intro p hp; rw [List.mem_singleton] at hp; subst hp; exact List.Mem.head _))) ?_ ?_; (omega)) | (refine y47 sg (hS) ((H.mem.sub (by intro p hp; rw [List.mem_singleton] at hp; subst hp; exact List.Mem.head _))) ?_ ?_; (omega)) | refine y13 ?_ | refine y14 ?_ | refine y15 ?_ | refine y16 ?_ | (refine y17 ?_ ?_; all_goals intro h) | (refine y18 ?_ ?_; all_goals intro h) | with_reducible apply OW.app | with_reducible apply OW.app0 | with_reducible apply QW.app | with_reducible apply QW.app0 | with_reducible apply OW.nil | (with_reducible apply QW.nil; intro w hcl; replace H := H.ext hcl; clear hcl) | refine y19 ?_ | with_reducible apply thn_n | with_reducible apply CW.seq | refine CW.region ?_ | refine y20 mixed ?_ | with_reducible apply CW.block | with_reducible apply CW.ret | with_reducible apply CW.exit | with_reducible apply CW.skip | with_reducible apply thn_r | with_reducible apply thn_e | with_reducible apply blk_n | with_reducible apply blk_r | refine y24 ?_ | refine y25 ?_ | refine y21 ?_ | refine y22 ?_ | fail)
    rw [hX8]
    repeat' (first | refine y1 sg ?_ | refine y2 sg ?_ | refine y3 ?_ | refine y4 ?_ | refine y5 sg ?_ | refine y6 sg ?_ | refine y7 sg H ?_ | refine y8 sg H ?_ | (refine y9 H ?_; intro b w H) | (refine y10 sg H ?_; intro b w H) | (refine y11 sg H ?_; intro w H) | refine y12 ?_ | (refine OX.storeF sg (v := Value.int .u8 ((FB.getD i 0 ^^^ 1 : Nat) : Int)) H rfl rfl rfl rfl rfl rfl rfl Up.here (by rw [List.length_append, u8L_len]; omega) (by omega) rfl ?_; intro w H; rw [Nat.zero_add, Nat.mul_one, wr_u8 (by omega), hX] at H) | refine y13 ?_ | refine y14 ?_ | refine y15 ?_ | refine y16 ?_ | (refine y17 ?_ ?_; all_goals intro h) | (refine y18 ?_ ?_; all_goals intro h) | with_reducible apply OW.app | with_reducible apply OW.app0 | with_reducible apply QW.app | with_reducible apply QW.app0 | with_reducible apply OW.nil | (with_reducible apply QW.nil; intro w hcl; replace H := H.ext hcl; clear hcl) | refine y19 ?_ | with_reducible apply thn_n | with_reducible apply CW.seq | refine CW.region ?_ | refine y20 mixed ?_ | with_reducible apply CW.block | with_reducible apply CW.ret | with_reducible apply CW.exit | with_reducible apply CW.skip | with_reducible apply thn_r | with_reducible apply thn_e | with_reducible apply blk_n | with_reducible apply blk_r | refine y24 ?_ | refine y25 ?_ | refine y21 ?_ | refine y22 ?_ | fail)
    have hS2 := sl_u8 (l := X) (z := z) (b := b) (E := 5) (fr := (fz, fz + 1)) (F := [(b, Obj.cells (u8L X ++ List.replicate z (Value.int .u8 0)).toArray 5 (fz, fz + 1))]) (List.Mem.head _)
    have hXB : X.length = B.size := by omega
    rw [hXB] at hS2
    have hS3 : SlB [(b, Obj.cells (u8L X ++ List.replicate z (Value.int .u8 0)).toArray 5 (fz, fz + 1))] 1 (some ⟨b, 0 + i * 1, none⟩) (i + 1 - i) b (0 + i * 1) (u8L X ++ List.replicate z (Value.int .u8 0)) 5 (fz, fz + 1) (u8c [X.getD i 0]) := fun _ => by
      obtain ⟨_, g2, g3⟩ := hS2 (by omega)
      refine ⟨rfl, g2, fun j hj => ?_⟩
      obtain rfl : j = 0 := by omega
      obtain ⟨g4, g5⟩ := g3 i (by omega)
      refine ⟨by omega, ?_⟩
      rw [show 0 + i * 1 + 0 * 1 = 0 + i * 1 by omega, g5]; rfl
    have CR2 : ∀ w, Calls Tryz.prog 16 [.string (bytesOf X)].toArray w (RetF (fun N v => ∃ (x : Sta) (p : SPt) (y : Vws) (q : VPt) (e : Int), v = .tuple #[.agg (x.cells p).toArray, .agg (y.cells q).toArray, .int .i64 e] ∧ StaM N x p ∧ VwM N y q ∧ ((e = 0 ∧ (isEq x (fullS 100) = false ∨ (isEq x (fullS 100) = true ∧ isEq y (fullV 50) = false))) ∨ e = 4)) w) := fun w => by
      refine Calls.mono (CR w) ?_
      rintro e w' ⟨v', N, he, ⟨x, p, y, q, e', rfl, hx, hy, hra⟩, hst⟩
      refine ⟨_, N, he, ⟨x, p, y, q, e', rfl, hx, hy, ?_⟩, hst⟩
      rcases hra with ⟨rfl, _, r2⟩ | ⟨rfl, _⟩ | ⟨_, r1, _⟩
      · exact .inl ⟨rfl, hno _ _ r2⟩
      · exact .inr rfl
      · rw [hXs] at r1; omega
    have h16 : IntKind.i64.wrap (16 + (i : Int)) = ((16 + i : Nat) : Int) := by rw [w64 (by omega) (by omega)]; omega
    have h17 : IntKind.i64.wrap (17 + (i : Int)) = ((17 + i : Nat) : Int) := by rw [w64 (by omega) (by omega)]; omega
    have h1i : IntKind.i64.wrap ((i : Int) + 1) = ((i + 1 : Nat) : Int) := by rw [w64 (by omega) (by omega)]; omega
    have hsh : ∀ w, Calls Tryz.prog 17 [.string ((f.extract 0 (16 + i) ++ bytesOf [X.getD i 0]) ++ f.extract (17 + i) f.size), .int .i64 42].toArray w (Ret (.bool true) w) := by
      refine shut_sum (B := FF.take (16 + i) ++ ([FB.getD i 0 ^^^ 1] ++ FF.drop (17 + i))) ?_ ?_ (FF_flip hib) (by decide)
      · rw [strL_app, strL_app, strL_extract, strL_extract, hfs, strL_bytesOf (by intro y hy; rw [List.mem_singleton] at hy; rw [hy, hXi]; exact hxb), hXi, List.drop_zero, List.append_assoc, Nat.sub_zero]
        rw [List.take_of_length_le (l := FF.drop (17 + i)) (by rw [List.length_drop]; omega)]
      · simp only [List.length_append, List.length_take, List.length_drop, List.length_singleton]; omega
    have hmm : ∀ {w : World} {L : Frag}, Mem w L → (b, Obj.cells (u8L X ++ List.replicate z (Value.int .u8 0)).toArray 5 (fz, fz + 1)) ∈ L → Mem w [(b, Obj.cells (u8L X ++ List.replicate z (Value.int .u8 0)).toArray 5 (fz, fz + 1))] := fun hM hm => hM.sub (by intro p hp; rw [List.mem_singleton] at hp; subst hp; exact hm)
    repeat' (first | refine y1 sg ?_ | refine y2 sg ?_ | refine y3 ?_ | refine y4 ?_ | refine y5 sg ?_ | refine y6 sg ?_ | refine y7 sg H ?_ | refine y8 sg H ?_ | (refine y9 H ?_; intro b w H) | (refine y10 sg H ?_; intro b w H) | (refine y11 sg H ?_; intro w H) | refine y12 ?_ | ((with_reducible apply OX.val); exact rfl; exact rfl; exact Yq.toStr sg hS2 hXB (hmm H.mem (by repeat (first | exact List.Mem.head _ | exact List.mem_append_right _ (List.Mem.head _) | refine List.Mem.tail _ ?_))) rfl rfl rfl rfl rfl rfl rfl rfl) | ((with_reducible apply QX.val); exact rfl; exact rfl; exact Yq.toStr sg hS2 hXB (hmm H.mem (by repeat (first | exact List.Mem.head _ | exact List.mem_append_right _ (List.Mem.head _) | refine List.Mem.tail _ ?_))) rfl rfl rfl rfl rfl rfl rfl rfl) | (refine' y32 ent16 ?_ ?_; rotate_left; exact CR2 _; intro vv M w hR hS; replace H := H.addR hS; clear hS; (try simp only [List.cons_append, List.nil_append] at H); obtain ⟨x, px, yy, qy, e, rfl, hxm, hym, hra⟩ := hR; rcases hra with ⟨rfl, k1|⟨k1, k2⟩⟩|rfl) | (refine' y30 ent13 ?_ ?_; rotate_left; exact c_stSame x (fullS 100) px p _ H.mem (hxm.mono (by intro x hx; simp [hx])) (hsm.mono (by intro x hx; simp [hx])); intro w hcl; replace H := H.ext hcl; clear hcl) | (refine' y31 ent13 ?_ ?_; rotate_left; exact (fun _ hcl => c_stSame x (fullS 100) px p _ (H.ext hcl).mem (hxm.mono (by intro x hx; simp [hx])) (hsm.mono (by intro x hx; simp [hx])))) | (refine' y30 ent14 ?_ ?_; rotate_left; exact c_vwSame yy (fullV 50) qy q _ H.mem (hym.mono (by intro x hx; simp [hx])) (hvm.mono (by intro x hx; repeat (first | exact hx | exact sub_ca hx | exact List.mem_append_right _ hx | exact List.mem_append_right _ (List.mem_cons_of_mem _ (List.mem_cons_of_mem _ hx)) | apply List.mem_cons_of_mem))); intro w hcl; replace H := H.ext hcl; clear hcl) | (refine' y31 ent14 ?_ ?_; rotate_left; exact (fun _ hcl => c_vwSame yy (fullV 50) qy q _ (H.ext hcl).mem (hym.mono (by intro x hx; simp [hx])) (hvm.mono (by intro x hx; repeat (first | exact hx | exact sub_ca hx | exact List.mem_append_right _ hx | exact List.mem_append_right _ (List.mem_cons_of_mem _ (List.mem_cons_of_mem _ hx)) | apply List.mem_cons_of_mem))))) | ((with_reducible apply OX.val); exact rfl; exact rfl; exact Yq.strHi sg (j := 16 + i) rfl rfl rfl rfl rfl (by rw [h16]; exact Int.toNat_natCast _) (by rw [h16]; omega) (by rw [h16]; omega)) | ((with_reducible apply QX.val); exact rfl; exact rfl; exact Yq.strHi sg (j := 16 + i) rfl rfl rfl rfl rfl (by rw [h16]; exact Int.toNat_natCast _) (by rw [h16]; omega) (by rw [h16]; omega)) | ((with_reducible apply OX.val); exact rfl; exact rfl; exact Yq.strLo sg (i := 17 + i) rfl rfl rfl rfl rfl (by rw [h17]; exact Int.toNat_natCast _) (by rw [h17]; omega) (by rw [h17]; omega)) | ((with_reducible apply QX.val); exact rfl; exact rfl; exact Yq.strLo sg (i := 17 + i) rfl rfl rfl rfl rfl (by rw [h17]; exact Int.toNat_natCast _) (by rw [h17]; omega) (by rw [h17]; omega)) | ((with_reducible apply OX.val); exact rfl; exact rfl; exact Yq.sliceCut sg (i := i) (j := i + 1) rfl rfl rfl rfl rfl rfl rfl (Int.toNat_natCast _) (by rw [h1i]; exact Int.toNat_natCast _) (by omega) (by rw [h1i]; omega) (by rw [h1i]; omega) (by omega)) | ((with_reducible apply QX.val); exact rfl; exact rfl; exact Yq.sliceCut sg (i := i) (j := i + 1) rfl rfl rfl rfl rfl rfl rfl (Int.toNat_natCast _) (by rw [h1i]; exact Int.toNat_natCast _) (by omega) (by rw [h1i]; omega) (by rw [h1i]; omega) (by omega)) | ((with_reducible apply OX.val); exact rfl; exact rfl; exact Yq.toStr sg hS3 (by simp) (hmm H.mem (by repeat (first | exact List.Mem.head _ | exact List.mem_append_right _ (List.Mem.head _) | refine List.Mem.tail _ ?_))) rfl rfl rfl rfl rfl rfl rfl rfl) | ((with_reducible apply QX.val); exact rfl; exact rfl; exact Yq.toStr sg hS3 (by simp) (hmm H.mem (by repeat (first | exact List.Mem.head _ | exact List.mem_append_right _ (List.Mem.head _) | refine List.Mem.tail _ ?_))) rfl rfl rfl rfl rfl rfl rfl rfl) | ((with_reducible apply OX.val); exact rfl; exact rfl; exact Yq.cat rfl rfl rfl (by simp only [ByteArray.size_append, ByteArray.size_extract, bytesOf_len, List.length_singleton]; omega)) | ((with_reducible apply QX.val); exact rfl; exact rfl; exact Yq.cat rfl rfl rfl (by simp only [ByteArray.size_append, ByteArray.size_extract, bytesOf_len, List.length_singleton]; omega)) | (refine' y30 ent17 ?_ ?_; rotate_left; exact hsh _; intro w hcl; replace H := H.ext hcl; clear hcl) | (refine' y31 ent17 ?_ ?_; rotate_left; exact (fun _ hcl => hsh _)) | refine y13 ?_ | refine y14 ?_ | refine y15 ?_ | refine y16 ?_ | (refine y17 ?_ ?_; all_goals (intro h; try (exfalso; first | ((rw [k1] at h; cases h); done) | ((rw [k2] at h; cases h); done)))) | (refine y18 ?_ ?_; all_goals (intro h; try (exfalso; first | ((rw [k1] at h; cases h); done) | ((rw [k2] at h; cases h); done)))) | with_reducible apply OW.app | with_reducible apply OW.app0 | with_reducible apply QW.app | with_reducible apply QW.app0 | with_reducible apply OW.nil | (with_reducible apply QW.nil; intro w hcl; replace H := H.ext hcl; clear hcl) | refine y19 ?_ | with_reducible apply thn_n | with_reducible apply CW.seq | refine CW.region ?_ | refine y20 mixed ?_ | with_reducible apply CW.block | with_reducible apply CW.ret | with_reducible apply CW.exit | with_reducible apply CW.skip | with_reducible apply thn_r | with_reducible apply thn_e | with_reducible apply blk_n | with_reducible apply blk_r | refine y24 ?_ | refine y25 ?_ | refine y21 ?_ | refine y22 ?_ | fail)
    all_goals exact Again.mk (i + 1) rfl ⟨vsucc (by omega), trivial⟩ ⟨H.sub (List.Sublist.cons _ (List.Sublist.cons _ (List.Sublist.cons _ (((List.sublist_append_left N1 _).cons_cons _).cons_cons _ |>.cons_cons _)))), hib⟩ (by omega)
  · obtain rfl : i = FB.length := by omega
    have d1 : decide ((FB.length : Int) < (B.size : Int)) = false := decide_eq_false (by omega)
    have n1 := none_yes (d := ⟨#[]⟩) (B := []) (e := 4) (by decide) (by decide) (RdW.short (by decide)) (.inl ⟨rfl, by decide, no_nil⟩) (by decide)
    have n2 := none_yes (d := B ++ ⟨#[0]⟩) (B := FB ++ [0]) (e := 4) (by rw [strL_app, hBs]; rfl) (by rw [List.length_append, List.length_singleton]; omega) (RdW.short (by rw [List.length_append, List.length_singleton]; omega)) (.inl ⟨rfl, by rw [List.length_append, List.length_singleton]; omega, no_more⟩) (by decide)
    have n3 := none_yes (d := B.extract 0 (FB.length - 1)) (B := FB.take (FB.length - 1)) (e := 4) (by rw [strL_extract, hBs]; simp) (by rw [List.length_take]; omega) (RdW.short (by rw [List.length_take]; omega)) (.inl ⟨rfl, by rw [List.length_take]; omega, no_less⟩) (by decide)
    have n4 := none_yes (d := ⟨#[128, 0]⟩ ++ B.extract 1 B.size) (B := 128 :: 0 :: FB.drop 1) (e := 4) (by
      rw [strL_app, strL_extract, hBs, List.take_of_length_le (by rw [List.length_drop]; omega)]
      rfl) (by simp only [List.length_cons, List.length_drop]; omega) (RdW.short (by simp only [List.length_cons, List.length_drop]; omega)) (.inl ⟨rfl, by simp only [List.length_cons, List.length_drop]; omega, no_128 _⟩) (by decide)
    have n7 := none_yes (d := ⟨#[0, 0, 1, 1, 1, 1, 97, 2]⟩ ++ bytesOf (List.replicate 8 0)) (B := 0 :: 0 :: 1 :: 1 :: 1 :: 1 :: 97 :: 2 :: List.replicate 8 0) (e := 4) (by rw [strL_app, bz]; rfl) (by decide) (RdW.short (by decide)) (.inl ⟨rfl, by decide, no_flag _⟩) (by decide)
    have n8 := none_yes (d := ⟨#[0, 0, 1, 1, 255, 255, 255, 255, 255, 255, 255, 255, 127]⟩) (B := [0, 0, 1, 1, 255, 255, 255, 255, 255, 255, 255, 255, 127]) (e := 4) (by decide) (by decide) (RdW.short (by decide)) (.inl ⟨rfl, by decide, no_many _⟩) (by decide)
    have s1 := shut_sum (d := ⟨#[]⟩) (B := []) (c := 8) (by decide) (by decide) (open_8 (by decide)) (by decide)
    have s2 := shut_sum (d := ⟨#[97, 98, 99]⟩) (B := [97, 98, 99]) (c := 8) (by decide) (by decide) (open_8 (by decide)) (by decide)
    have s3 := shut_sum (d := ⟨#[97, 98, 99, 100]⟩) (B := [97, 98, 99, 100]) (c := 42) (by decide) (by decide) open_abcd (by decide)
    have s4 := shut_sum (d := f.extract 0 (FF.length - 1)) (B := FF.take (FF.length - 1)) (c := 42) (by rw [strL_extract, hfs]; simp) (by rw [List.length_take]; omega) FF_less (by decide)
    have s5 := shut_sum (d := f ++ ⟨#[0]⟩) (B := FF ++ [0]) (c := 42) (by rw [strL_app, hfs]; rfl) (by rw [List.length_append, List.length_singleton]; omega) FF_more (by decide)
    have m5 := fun w => c_manyS 1048557 0 (by decide) w
    have m6 := fun w => c_manyS 1048556 0 (by decide) w
    have m7 := fun w => c_manyS 8 0 (by decide) w
    have mm9 := fun w => c_manyS 1048577 0 (by decide) w
    have k5 := n5
    have k6 := n6
    have k9 := s6
    have l7 : (bytesOf (List.replicate 8 0)).size = 8 := by rw [bytesOf_len]; rfl
    generalize bytesOf (List.replicate 1048557 0) = Z5 at m5 k5
    generalize bytesOf (List.replicate 1048556 0) = Z6 at m6 k6
    generalize bytesOf (List.replicate 8 0) = Z7 at m7 n7 l7
    generalize bytesOf (List.replicate 1048577 0) = Z9 at mm9 k9
    have hb1 : IntKind.i64.wrap ((B.size : Int) - 1) = ((FB.length - 1 : Nat) : Int) := by rw [w64 (by omega) (by omega)]; omega
    have hf1 : IntKind.i64.wrap ((f.size : Int) - 1) = ((FF.length - 1 : Nat) : Int) := by rw [w64 (by omega) (by omega)]; omega
    repeat' (first | refine y1 sg ?_ | refine y2 sg ?_ | refine y3 ?_ | refine y4 ?_ | refine y5 sg ?_ | refine y6 sg ?_ | refine y7 sg H ?_ | refine y8 sg H ?_ | (refine y9 H ?_; intro b w H) | (refine y10 sg H ?_; intro b w H) | (refine y11 sg H ?_; intro w H) | refine y12 ?_ | refine y13 ?_ | refine y14 ?_ | refine y15 ?_ | refine y16 ?_ | (refine y17 ?_ ?_; all_goals (intro h; try (exfalso; first | ((rw [d1] at h; cases h); done)))) | (refine y18 ?_ ?_; all_goals (intro h; try (exfalso; first | ((rw [d1] at h; cases h); done)))) | with_reducible apply OW.app | with_reducible apply OW.app0 | with_reducible apply QW.app | with_reducible apply QW.app0 | with_reducible apply OW.nil | (with_reducible apply QW.nil; intro w hcl; replace H := H.ext hcl; clear hcl) | refine y19 ?_ | with_reducible apply thn_n | with_reducible apply CW.seq | refine CW.region ?_ | refine y20 mixed ?_ | with_reducible apply CW.block | with_reducible apply CW.ret | with_reducible apply CW.exit | with_reducible apply CW.skip | with_reducible apply thn_r | with_reducible apply thn_e | with_reducible apply blk_n | with_reducible apply blk_r | refine y24 ?_ | refine y25 ?_ | refine y21 ?_ | refine y22 ?_ | fail)
    refine CW.cond rfl (fun h => absurd h (by rw [d1]; decide)) (fun h => ?_)
    clear h
    repeat' (first | refine y1 sg ?_ | refine y2 sg ?_ | refine y3 ?_ | refine y4 ?_ | refine y5 sg ?_ | refine y6 sg ?_ | refine y7 sg H ?_ | refine y8 sg H ?_ | (refine y9 H ?_; intro b w H) | (refine y10 sg H ?_; intro b w H) | (refine y11 sg H ?_; intro w H) | refine y12 ?_ | (refine' y32 ent9 ?_ ?_; rotate_left; exact c_full _; intro vv M w hR hS; replace H := H.addR hS; clear hS; (try simp only [List.cons_append, List.nil_append] at H); obtain ⟨bl2, N2, p2, a1', a2', a3', c1', c2', c3', rfl, rfl, hsm2, hvm2⟩ := hR; replace H := H.perm (permN N1 _)) | (refine' y30 ent10 ?_ ?_; rotate_left; exact CB2 p2 q _ H.mem (hsm2.fee.mono (by intro x hx; simp [hx])) (hvm.mono (by intro x hx; repeat (first | exact hx | exact sub_ca hx | exact List.mem_append_right _ hx | exact List.mem_append_right _ (List.mem_cons_of_mem _ (List.mem_cons_of_mem _ hx)) | apply List.mem_cons_of_mem))); intro w hcl; replace H := H.ext hcl; clear hcl) | (refine' y31 ent10 ?_ ?_; rotate_left; exact (fun _ hcl => CB2 p2 q _ (H.ext hcl).mem (hsm2.fee.mono (by intro x hx; simp [hx])) (hvm.mono (by intro x hx; repeat (first | exact hx | exact sub_ca hx | exact List.mem_append_right _ hx | exact List.mem_append_right _ (List.mem_cons_of_mem _ (List.mem_cons_of_mem _ hx)) | apply List.mem_cons_of_mem))))) | (refine' y30 ent10 ?_ ?_; rotate_left; exact CB3 p ⟨a1', c1', a2', c2', a3', c3', some ⟨bl2, 0, none⟩, 2⟩ _ H.mem (hsm.mono (by intro x hx; simp [hx])) ((hvm2 51).mono (by intro x hx; repeat (first | exact sub_d hx | apply List.mem_cons_of_mem))); intro w hcl; replace H := H.ext hcl; clear hcl) | (refine' y31 ent10 ?_ ?_; rotate_left; exact (fun _ hcl => CB3 p ⟨a1', c1', a2', c2', a3', c3', some ⟨bl2, 0, none⟩, 2⟩ _ (H.ext hcl).mem (hsm.mono (by intro x hx; simp [hx])) ((hvm2 51).mono (by intro x hx; repeat (first | exact sub_d hx | apply List.mem_cons_of_mem))))) | (refine' y30 ent11 ?_ ?_; rotate_left; exact CF2 p2 q _ H.mem (hsm2.fee.mono (by intro x hx; simp [hx])) (hvm.mono (by intro x hx; repeat (first | exact hx | exact sub_ca hx | exact List.mem_append_right _ hx | exact List.mem_append_right _ (List.mem_cons_of_mem _ (List.mem_cons_of_mem _ hx)) | apply List.mem_cons_of_mem))); intro w hcl; replace H := H.ext hcl; clear hcl) | (refine' y31 ent11 ?_ ?_; rotate_left; exact (fun _ hcl => CF2 p2 q _ (H.ext hcl).mem (hsm2.fee.mono (by intro x hx; simp [hx])) (hvm.mono (by intro x hx; repeat (first | exact hx | exact sub_ca hx | exact List.mem_append_right _ hx | exact List.mem_append_right _ (List.mem_cons_of_mem _ (List.mem_cons_of_mem _ hx)) | apply List.mem_cons_of_mem))))) | (refine' y30 ent11 ?_ ?_; rotate_left; exact CF3 p q _ H.mem (hsm.mono (by intro x hx; simp [hx])) (hvm.mono (by intro x hx; repeat (first | exact hx | exact sub_ca hx | exact List.mem_append_right _ hx | exact List.mem_append_right _ (List.mem_cons_of_mem _ (List.mem_cons_of_mem _ hx)) | apply List.mem_cons_of_mem))); intro w hcl; replace H := H.ext hcl; clear hcl) | (refine' y31 ent11 ?_ ?_; rotate_left; exact (fun _ hcl => CF3 p q _ (H.ext hcl).mem (hsm.mono (by intro x hx; simp [hx])) (hvm.mono (by intro x hx; repeat (first | exact hx | exact sub_ca hx | exact List.mem_append_right _ hx | exact List.mem_append_right _ (List.mem_cons_of_mem _ (List.mem_cons_of_mem _ hx)) | apply List.mem_cons_of_mem))))) | (refine' y30 ent11 ?_ ?_; rotate_left; exact CF4 p2 q _ H.mem (hsm2.fee.mono (by intro x hx; simp [hx])) (hvm.mono (by intro x hx; repeat (first | exact hx | exact sub_ca hx | exact List.mem_append_right _ hx | exact List.mem_append_right _ (List.mem_cons_of_mem _ (List.mem_cons_of_mem _ hx)) | apply List.mem_cons_of_mem))); intro w hcl; replace H := H.ext hcl; clear hcl) | (refine' y31 ent11 ?_ ?_; rotate_left; exact (fun _ hcl => CF4 p2 q _ (H.ext hcl).mem (hsm2.fee.mono (by intro x hx; simp [hx])) (hvm.mono (by intro x hx; repeat (first | exact hx | exact sub_ca hx | exact List.mem_append_right _ hx | exact List.mem_append_right _ (List.mem_cons_of_mem _ (List.mem_cons_of_mem _ hx)) | apply List.mem_cons_of_mem))))) | (refine y40 sg ((slL bl2 50)) ?_ ?_ ?_; (omega); (omega)) | (refine y41 sg ((slL bl2 50)) ?_ ?_ ?_; (omega); (omega)) | (refine' y30 ent18 ?_ ?_; rotate_left; exact n1 _; intro w hcl; replace H := H.ext hcl; clear hcl) | (refine' y31 ent18 ?_ ?_; rotate_left; exact (fun _ hcl => n1 _)) | (refine' y30 ent18 ?_ ?_; rotate_left; exact n2 _; intro w hcl; replace H := H.ext hcl; clear hcl) | (refine' y31 ent18 ?_ ?_; rotate_left; exact (fun _ hcl => n2 _)) | (refine' y30 ent18 ?_ ?_; rotate_left; exact n3 _; intro w hcl; replace H := H.ext hcl; clear hcl) | (refine' y31 ent18 ?_ ?_; rotate_left; exact (fun _ hcl => n3 _)) | (refine' y30 ent18 ?_ ?_; rotate_left; exact n4 _; intro w hcl; replace H := H.ext hcl; clear hcl) | (refine' y31 ent18 ?_ ?_; rotate_left; exact (fun _ hcl => n4 _)) | (refine' y30 ent18 ?_ ?_; rotate_left; exact k5 _; intro w hcl; replace H := H.ext hcl; clear hcl) | (refine' y31 ent18 ?_ ?_; rotate_left; exact (fun _ hcl => k5 _)) | (refine' y30 ent18 ?_ ?_; rotate_left; exact k6 _; intro w hcl; replace H := H.ext hcl; clear hcl) | (refine' y31 ent18 ?_ ?_; rotate_left; exact (fun _ hcl => k6 _)) | (refine' y30 ent18 ?_ ?_; rotate_left; exact n7 _; intro w hcl; replace H := H.ext hcl; clear hcl) | (refine' y31 ent18 ?_ ?_; rotate_left; exact (fun _ hcl => n7 _)) | (refine' y30 ent18 ?_ ?_; rotate_left; exact n8 _; intro w hcl; replace H := H.ext hcl; clear hcl) | (refine' y31 ent18 ?_ ?_; rotate_left; exact (fun _ hcl => n8 _)) | (refine' y30 ent17 ?_ ?_; rotate_left; exact s1 _; intro w hcl; replace H := H.ext hcl; clear hcl) | (refine' y31 ent17 ?_ ?_; rotate_left; exact (fun _ hcl => s1 _)) | (refine' y30 ent17 ?_ ?_; rotate_left; exact s2 _; intro w hcl; replace H := H.ext hcl; clear hcl) | (refine' y31 ent17 ?_ ?_; rotate_left; exact (fun _ hcl => s2 _)) | (refine' y30 ent17 ?_ ?_; rotate_left; exact s3 _; intro w hcl; replace H := H.ext hcl; clear hcl) | (refine' y31 ent17 ?_ ?_; rotate_left; exact (fun _ hcl => s3 _)) | (refine' y30 ent17 ?_ ?_; rotate_left; exact s4 _; intro w hcl; replace H := H.ext hcl; clear hcl) | (refine' y31 ent17 ?_ ?_; rotate_left; exact (fun _ hcl => s4 _)) | (refine' y30 ent17 ?_ ?_; rotate_left; exact s5 _; intro w hcl; replace H := H.ext hcl; clear hcl) | (refine' y31 ent17 ?_ ?_; rotate_left; exact (fun _ hcl => s5 _)) | (refine' y30 ent17 ?_ ?_; rotate_left; exact k9 _; intro w hcl; replace H := H.ext hcl; clear hcl) | (refine' y31 ent17 ?_ ?_; rotate_left; exact (fun _ hcl => k9 _)) | (refine' y30 ent19 ?_ ?_; rotate_left; exact m5 _; intro w hcl; replace H := H.ext hcl; clear hcl) | (refine' y31 ent19 ?_ ?_; rotate_left; exact (fun _ hcl => m5 _)) | (refine' y30 ent19 ?_ ?_; rotate_left; exact m6 _; intro w hcl; replace H := H.ext hcl; clear hcl) | (refine' y31 ent19 ?_ ?_; rotate_left; exact (fun _ hcl => m6 _)) | (refine' y30 ent19 ?_ ?_; rotate_left; exact mm9 _; intro w hcl; replace H := H.ext hcl; clear hcl) | (refine' y31 ent19 ?_ ?_; rotate_left; exact (fun _ hcl => mm9 _)) | (refine' y30 ent19 ?_ ?_; rotate_left; exact m7 _; intro w hcl; replace H := H.ext hcl; clear hcl) | (refine' y31 ent19 ?_ ?_; rotate_left; exact (fun _ hcl => m7 _)) | ((with_reducible apply OX.val); exact rfl; exact rfl; exact Yq.cat rfl rfl rfl (show B.size + 1 ≤ 9223372036854775807 by omega)) | ((with_reducible apply QX.val); exact rfl; exact rfl; exact Yq.cat rfl rfl rfl (show B.size + 1 ≤ 9223372036854775807 by omega)) | ((with_reducible apply OX.val); exact rfl; exact rfl; exact Yq.cat rfl rfl rfl (show 2 + (B.extract 1 B.size).size ≤ 9223372036854775807 by rw [ByteArray.size_extract]; omega)) | ((with_reducible apply QX.val); exact rfl; exact rfl; exact Yq.cat rfl rfl rfl (show 2 + (B.extract 1 B.size).size ≤ 9223372036854775807 by rw [ByteArray.size_extract]; omega)) | ((with_reducible apply OX.val); exact rfl; exact rfl; exact Yq.cat rfl rfl rfl (show 8 + Z7.size ≤ 9223372036854775807 by omega)) | ((with_reducible apply QX.val); exact rfl; exact rfl; exact Yq.cat rfl rfl rfl (show 8 + Z7.size ≤ 9223372036854775807 by omega)) | ((with_reducible apply OX.val); exact rfl; exact rfl; exact Yq.cat rfl rfl rfl (show f.size + 1 ≤ 9223372036854775807 by omega)) | ((with_reducible apply QX.val); exact rfl; exact rfl; exact Yq.cat rfl rfl rfl (show f.size + 1 ≤ 9223372036854775807 by omega)) | ((with_reducible apply OX.val); exact rfl; exact rfl; exact Yq.strHi sg (j := FB.length - 1) rfl rfl rfl rfl rfl (by rw [hb1]; exact Int.toNat_natCast _) (by rw [hb1]; omega) (by rw [hb1]; omega)) | ((with_reducible apply QX.val); exact rfl; exact rfl; exact Yq.strHi sg (j := FB.length - 1) rfl rfl rfl rfl rfl (by rw [hb1]; exact Int.toNat_natCast _) (by rw [hb1]; omega) (by rw [hb1]; omega)) | ((with_reducible apply OX.val); exact rfl; exact rfl; exact Yq.strHi sg (j := FF.length - 1) rfl rfl rfl rfl rfl (by rw [hf1]; exact Int.toNat_natCast _) (by rw [hf1]; omega) (by rw [hf1]; omega)) | ((with_reducible apply QX.val); exact rfl; exact rfl; exact Yq.strHi sg (j := FF.length - 1) rfl rfl rfl rfl rfl (by rw [hf1]; exact Int.toNat_natCast _) (by rw [hf1]; omega) (by rw [hf1]; omega)) | ((with_reducible apply OX.val); exact rfl; exact rfl; exact Yq.strLo sg (i := 1) rfl rfl rfl rfl rfl rfl (by decide) (by omega)) | ((with_reducible apply QX.val); exact rfl; exact rfl; exact Yq.strLo sg (i := 1) rfl rfl rfl rfl rfl rfl (by decide) (by omega)) | refine y13 ?_ | refine y14 ?_ | refine y15 ?_ | refine y16 ?_ | (refine y17 ?_ ?_; all_goals intro h) | (refine y18 ?_ ?_; all_goals intro h) | with_reducible apply OW.app | with_reducible apply OW.app0 | with_reducible apply QW.app | with_reducible apply QW.app0 | with_reducible apply OW.nil | (with_reducible apply QW.nil; intro w hcl; replace H := H.ext hcl; clear hcl) | refine y19 ?_ | with_reducible apply thn_n | with_reducible apply CW.seq | refine CW.region ?_ | with_reducible apply CW.block | with_reducible apply CW.ret | with_reducible apply CW.exit | with_reducible apply CW.skip | with_reducible apply thn_r | with_reducible apply thn_e | with_reducible apply blk_n | with_reducible apply blk_r | refine y24 ?_ | refine y25 ?_ | refine y21 ?_ | refine y22 ?_ | (refine y23 ?_ ?_; all_goals intro h) | fail)
    all_goals exact ret1 rfl H.cl rfl
end Go.Proofs.YtggolnppckpdlaaGreat
