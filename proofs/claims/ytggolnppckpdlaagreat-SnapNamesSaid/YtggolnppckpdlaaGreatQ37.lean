/- Texts of ours, joined: the steps of the proof, or the claim's theorem. -/
import Derived.Test.YtggolnppckpdlaaGreatQ04
import Derived.Test.YtggolnppckpdlaaGreatQ09
import Derived.Test.YtggolnppckpdlaaGreatQ13
import Derived.Test.YtggolnppckpdlaaGreatQ18
import Derived.Test.YtggolnppckpdlaaGreatQ21
import Derived.Test.YtggolnppckpdlaaGreatQ25
import Derived.Test.YtggolnppckpdlaaGreatQ33
import Derived.Test.YtggolnppckpdlaaGreatQ35
import Derived.Test.YtggolnppckpdlaaGreatQ36
set_option linter.unusedSimpArgs false
set_option linter.unusedVariables false
namespace Go.Proofs.YtggolnppckpdlaaGreat
open Go Go.Sk Go.RowKit
attribute [local irreducible] Go.Calls
def sealL (l : List Nat) : List Nat := l ++ le4 (crcOf l)
theorem le4_byt (n : Nat) : Byt (le4 n) := by
  intro b hb
  simp only [le4, List.mem_cons, List.not_mem_nil, or_false] at hb
  omega
theorem le4_len (n : Nat) : (le4 n).length = 4 := rfl
theorem c_Seal (s : ByteArray) (hs : s.size ≤ 140737488355000) (w0 : World) : Calls Tryz.prog 42 [.string s].toArray w0 (Ret (.string (bytesOf (sealL (strL s)))) w0) := by
  refine enter [.tmp 2] Tryz.func42 rfl Tryz.ntmps42 rfl rfl ?_
  have H := St.start w0
  repeat' (first | refine y1 sg ?_ | refine y3 ?_ | (refine' y30 ent115 ?_ ?_; rotate_left; exact c_cOf s (by omega) _; intro w hcl; replace H := H.ext hcl; clear hcl) | (refine' y32 ent114 ?_ ?_; rotate_left; exact c_cbytes (crcOf (strL s)) _; intro v M w hR hS; replace H := H.addR hS; clear hS; (try simp only [List.cons_append, List.nil_append] at H); obtain ⟨b, rfl, rfl⟩ := hR) | with_reducible apply OW.nil | with_reducible apply thn_n | with_reducible apply CW.seq | refine CW.region ?_ | fail)
  have hB : SlB [cb b (wrB (le4 (crcOf (strL s)))) 5] 1 (some ⟨b, 0, none⟩) 4 b 0 (wrB (le4 (crcOf (strL s)))) 5 (0, 0) (u8c (le4 (crcOf (strL s)))) := fun _ => ⟨rfl, List.Mem.head _, fun j hj => by
    match j, hj with
    | 0, _ => exact ⟨by rw [wrB_len, le4_len]; omega, rfl⟩
    | 1, _ => exact ⟨by rw [wrB_len, le4_len]; omega, rfl⟩
    | 2, _ => exact ⟨by rw [wrB_len, le4_len]; omega, rfl⟩
    | 3, _ => exact ⟨by rw [wrB_len, le4_len]; omega, rfl⟩⟩
  repeat' (first | refine y1 sg ?_ | refine y3 ?_ | (refine OX.val rfl rfl (Yq.toStr sg hB rfl H.mem rfl rfl rfl rfl rfl rfl rfl rfl) ?_) | (refine OX.val rfl rfl (Yq.cat rfl rfl rfl (by rw [bytesOf_len, le4_len]; omega)) ?_) | with_reducible apply OW.nil | with_reducible apply thn_n | with_reducible apply CW.ret | fail)
  exact ret1 rfl H.cl (congrArg Value.string (by unfold sealL; rw [← bytesOf_app, bytesOf_strL]))
def openL (l : List Nat) : List Nat × Int := if l.length < 4 then ([], 8) else if sealL (l.take (l.length - 4)) = l then (l.take (l.length - 4), 0) else ([], 42)
theorem sealL_byt {l : List Nat} (h : Byt l) : Byt (sealL l) := h.app (le4_byt _)
theorem c_cOpen (s : ByteArray) (hs : s.size ≤ 140737488355000) (w0 : World) : Calls Tryz.prog 44 [.string s].toArray w0 (Ret (.tuple #[.string (bytesOf (openL (strL s)).1), .int .i64 (openL (strL s)).2]) w0) := by
  have hl := strL_len s
  by_cases h4 : s.size < 4
  · have hlt : decide ((s.size : Int) < 4) = true := decide_eq_true (by omega)
    refine enter [.tmp 2, .tmp 3] Tryz.func44 rfl Tryz.ntmps44 rfl rfl ?_
    have H := St.start w0
    repeat' (first | refine y1 sg ?_ | with_reducible apply OW.nil | with_reducible apply thn_n | with_reducible apply CW.seq | refine CW.region ?_ | with_reducible apply CW.ret | with_reducible apply thn_r | (refine y23 ?_ ?_; all_goals (intro h; try (exfalso; first | ((rw [hlt] at h; cases h); done)))) | fail)
    exact ret2 rfl rfl H.cl (by unfold openL; rw [if_pos (by omega)]; rfl)
  · have hlt : decide ((s.size : Int) < 4) = false := decide_eq_false (by omega)
    have hsz : (s.extract 0 (s.size - 4)).size = s.size - 4 := by rw [← strL_len, strL_extract]; simp; omega
    have hw : IntKind.i64.wrap ((s.size : Int) - 4) = ((s.size - 4 : Nat) : Int) := by rw [w64 (by omega) (by omega)]; omega
    have hS := fun w => c_Seal (s.extract 0 (s.size - 4)) (by omega) w
    have hex : strL (s.extract 0 (s.size - 4)) = (strL s).take ((strL s).length - 4) := by rw [strL_extract, hl]; simp
    rw [hex] at hS
    have hb : Byt (sealL ((strL s).take ((strL s).length - 4))) := sealL_byt ((byt_str s).take _)
    refine enter [.tmp 2, .tmp 3] Tryz.func44 rfl Tryz.ntmps44 rfl rfl ?_
    have H := St.start w0
    repeat' (first | refine y1 sg ?_ | refine y3 ?_ | (refine OX.val rfl rfl (Yq.strHi sg (j := s.size - 4) rfl rfl rfl rfl rfl (by rw [hw]; exact Int.toNat_natCast _) (by rw [hw]; omega) (by rw [hw]; omega)) ?_) | (refine' y30 ent42 ?_ ?_; rotate_left; exact hS _; intro w hcl; replace H := H.ext hcl; clear hcl) | with_reducible apply OW.nil | with_reducible apply thn_n | with_reducible apply CW.seq | refine CW.region ?_ | with_reducible apply CW.ret | with_reducible apply CW.skip | with_reducible apply thn_r | (refine y23 ?_ ?_; all_goals (intro h; try (exfalso; first | ((rw [hlt] at h; cases h); done)))) | fail)
    all_goals rw [str_eq, strL_bytesOf hb] at h
    · have hne : ¬ sealL ((strL s).take ((strL s).length - 4)) = strL s := by simpa using h
      exact ret2 rfl rfl H.cl (by unfold openL; rw [if_neg (by omega), if_neg hne]; rfl)
    · have heq : sealL ((strL s).take ((strL s).length - 4)) = strL s := by simpa using h
      exact ret2 rfl rfl H.cl (by unfold openL; rw [if_neg (by omega), if_pos heq, ← hex, bytesOf_strL])
end Go.Proofs.YtggolnppckpdlaaGreat
set_option linter.unusedSimpArgs false
set_option linter.unusedVariables false
namespace Go.Proofs.YtggolnppckpdlaaGreat
open Go Go.Sk Go.RowKit
attribute [local irreducible] Go.Calls
structure SnW (s : Sta) (v : Vws) : Prop where
  sw : StaW s
  sb : mayS s = true → StaB s
  vb : VwB v
  lw : ∀ k, k < v.lins.length → (ln_ v.lins k).wf
def bodyL (s : Sta) (v : Vws) : List Nat := stateB s ++ viewsB v
def bodyF (s : Sta) (v : Vws) : List Nat × Int := if mayS s && viewsF v then (if (bodyL s v).length > 1048556 then ([], 40) else (bodyL s v, 0)) else ([], 4)
theorem stateB_len {s : Sta} (hb : StaB s) : (stateB s).length ≤ 2100000000 := by
  obtain ⟨b1, b1n, b2, b2n, b3, b4, b4n, b5, b5n⟩ := hb
  have n0 := nb [s.clock, s.fee, s.nextO, s.nextA]
  simp only [List.length_cons, List.length_nil] at n0
  have n1 := manyB_len b1 fun k hk => accB_len (b1n k hk)
  have n2 := manyB_len b2 fun k hk => insB_len (b2n k hk)
  have n3 := manyB_len b3 fun k _ => rowB_len (rw_ s.rows k)
  have n4 := manyB_len b4 fun k _ => ordB_len (od_ s.orders k)
  have n5 := manyB_len b5 fun k hk => aucB_len (b5n k hk)
  unfold stateB
  simp only [List.length_append]
  omega
theorem viewsB_len {v : Vws} (hb : VwB v) : (viewsB v).length ≤ 10000000 := by
  obtain ⟨b1, b1n, b2, b3, b4, b4n⟩ := hb
  have n1 := manyB_len b1 fun k _ => opnB_len (op_ v.opn k)
  have n2 := manyB_len b2 fun k _ => lotB_len (lt_ v.lots k)
  have n3 := manyB_len b3 fun k _ => posB_len (ps_ v.poss k)
  have n4 := manyB_len b4 fun k _ => linB_len (ln_ v.lins k)
  unfold viewsB
  simp only [List.length_append]
  omega
theorem Wr.first (pw : Nat) : Wr [cb pw [.slice none 0 0] 90] pw [] := ⟨none, 0, [], rfl, Go.Sk.Own.nil _ _ _⟩
theorem permW4 {a b : Nat × Obj} (M : Frag) : (a :: b :: M).Perm (M ++ [a, b]) := List.perm_append_comm (l₁ := [a, b]) (l₂ := M)
set_option maxHeartbeats 2000000 in
theorem c_Body {F : Frag} (s : Sta) (p : SPt) (v : Vws) (q : VPt) (hW : SnW s v) (w0 : World) (hF : Mem w0 F) (hs : StaM F s p) (hv : VwM F v q) :
    Calls Tryz.prog 10 [.agg (s.cells p).toArray, .agg (v.cells q).toArray].toArray w0 (Ret (.tuple #[.string (bytesOf (bodyF s v).1), .int .i64 (bodyF s v).2]) w0) := by
  have hl2 := viewsB_len hW.vb
  have hl : (bodyL s v).length = (stateB s).length + (viewsB v).length := List.length_append
  have hmay := fun w hM => c_MaySt s p hW.sw w hM hs
  have hvm := fun w hM => c_vMay v q hW.lw w hM hv
  by_cases h1 : (mayS s && viewsF v) = true
  · obtain ⟨ha, hb⟩ : mayS s = true ∧ viewsF v = true := by simpa using h1
    have hsb := hW.sb ha
    have hl1 := stateB_len hsb
    rw [ha] at hmay
    rw [hb] at hvm
    by_cases h2 : (bodyL s v).length > 1048556
    · have hd : decide (((([] ++ stateB s) ++ viewsB v).length : Int) > 1048556) = true := decide_eq_true (by rw [List.nil_append, ← bodyL]; omega)
      refine enter [.tmp 4, .tmp 5] Tryz.func10 rfl Tryz.ntmps10 rfl rfl ?_
      have H := St.start w0
      repeat' (first | refine y1 sg ?_ | refine y3 ?_ | refine y5 sg ?_ | refine y7 sg H ?_ | (refine y9 H ?_; intro b w H) | (refine' y30 ent32 ?_ ?_; rotate_left; exact hmay _ (H.memF hF); intro w hcl; replace H := H.ext hcl; clear hcl) | (refine' y30 ent33 ?_ ?_; rotate_left; exact hvm _ (H.memF hF); intro w hcl; replace H := H.ext hcl; clear hcl) | (refine' y33 ent35 ?_ ?_; rotate_left 2; exact c_put (M := [_]) (l := []) s p hF hs hsb H (Wr.first _) (by decide); rintro v N w ⟨rfl, M, rfl, hM⟩ H; replace H := H.perm (permW4 M).symm) | (refine' y33 ent36 ?_ ?_; rotate_left 2; exact c_project v q hF hv hW.vb (H.perm (permW4 M)) hM (by rw [List.nil_append]; omega); rintro v N w ⟨rfl, M, rfl, hM⟩ H; replace H := H.perm (permW4 M).symm) | (refine' y30 ent37 ?_ ?_; rotate_left; exact c_WLen _ H.mem (List.subset_append_right [_, _] _) hM (by rw [List.nil_append, List.length_append]; omega); intro w hcl; replace H := H.ext hcl; clear hcl) | refine y13 ?_ | with_reducible apply OW.nil | with_reducible apply thn_n | with_reducible apply CW.seq | refine CW.region ?_ | with_reducible apply CW.ret | with_reducible apply CW.skip | with_reducible apply thn_r | refine y22 ?_ | (refine y23 ?_ ?_; all_goals (intro h; try (exfalso; first | ((rw [hd] at h; cases h); done)))) | fail)
      exact ret2 rfl rfl H.cl (by unfold bodyF; rw [if_pos h1, if_pos h2]; rfl)
    · have hd : decide (((([] ++ stateB s) ++ viewsB v).length : Int) > 1048556) = false := decide_eq_false (by rw [List.nil_append, ← bodyL]; omega)
      refine enter [.tmp 4, .tmp 5] Tryz.func10 rfl Tryz.ntmps10 rfl rfl ?_
      have H := St.start w0
      repeat' (first | refine y1 sg ?_ | refine y3 ?_ | refine y5 sg ?_ | refine y7 sg H ?_ | (refine y9 H ?_; intro b w H) | (refine' y30 ent32 ?_ ?_; rotate_left; exact hmay _ (H.memF hF); intro w hcl; replace H := H.ext hcl; clear hcl) | (refine' y30 ent33 ?_ ?_; rotate_left; exact hvm _ (H.memF hF); intro w hcl; replace H := H.ext hcl; clear hcl) | (refine' y33 ent35 ?_ ?_; rotate_left 2; exact c_put (M := [_]) (l := []) s p hF hs hsb H (Wr.first _) (by decide); rintro v N w ⟨rfl, M, rfl, hM⟩ H; replace H := H.perm (permW4 M).symm) | (refine' y33 ent36 ?_ ?_; rotate_left 2; exact c_project v q hF hv hW.vb (H.perm (permW4 M)) hM (by rw [List.nil_append]; omega); rintro v N w ⟨rfl, M, rfl, hM⟩ H; replace H := H.perm (permW4 M).symm) | (refine' y30 ent37 ?_ ?_; rotate_left; exact c_WLen _ H.mem (List.subset_append_right [_, _] _) hM (by rw [List.nil_append, List.length_append]; omega); intro w hcl; replace H := H.ext hcl; clear hcl) | (refine' y30 ent38 ?_ ?_; rotate_left; exact c_WBytes _ H.mem (List.subset_append_right [_, _] _) hM (by rw [List.nil_append, List.length_append]; omega); intro w hcl; replace H := H.ext hcl; clear hcl) | refine y13 ?_ | with_reducible apply OW.nil | with_reducible apply thn_n | with_reducible apply CW.seq | refine CW.region ?_ | with_reducible apply CW.ret | with_reducible apply CW.skip | refine y22 ?_ | (refine y23 ?_ ?_; all_goals (intro h; try (exfalso; first | ((rw [hd] at h; cases h); done)))) | fail)
      exact ret2 rfl rfl H.cl (by unfold bodyF; rw [if_pos h1, if_neg h2]; rfl)
  · have e : bodyF s v = ([], 4) := by unfold bodyF; rw [if_neg h1]
    obtain ⟨ma, hma⟩ : ∃ b, mayS s = b := ⟨_, rfl⟩
    obtain ⟨mb, hmb⟩ : ∃ b, viewsF v = b := ⟨_, rfl⟩
    rw [hma] at hmay h1
    rw [hmb] at hvm h1
    refine enter [.tmp 4, .tmp 5] Tryz.func10 rfl Tryz.ntmps10 rfl rfl ?_
    have H := St.start w0
    repeat' (first | refine y1 sg ?_ | refine y3 ?_ | refine y5 sg ?_ | refine y7 sg H ?_ | (refine y9 H ?_; intro b w H) | (refine' y30 ent32 ?_ ?_; rotate_left; exact hmay _ (H.memF hF); intro w hcl; replace H := H.ext hcl; clear hcl) | (refine' y30 ent33 ?_ ?_; rotate_left; exact hvm _ (H.memF hF); intro w hcl; replace H := H.ext hcl; clear hcl) | refine y13 ?_ | refine y14 ?_ | (refine y17 ?_ ?_; all_goals (intro h; try (exfalso; first | ((subst_vars; simp_all; done); done)))) | with_reducible apply OW.nil | with_reducible apply thn_n | with_reducible apply CW.seq | refine CW.region ?_ | with_reducible apply CW.ret | with_reducible apply thn_r | refine y21 ?_ | (refine y23 ?_ ?_; all_goals (intro h; try (exfalso; first | ((subst_vars; simp_all; done); done)))) | fail)
    all_goals first
      | exact ret2 rfl rfl H.cl (by rw [e]; rfl)
      | (exfalso; simp_all)
def headL (seq : Nat) (b : List Nat) : List Nat := [115, 110, 112, 49] ++ (be8 seq ++ (be4 b.length ++ b))
def fileF (seq : Int) (s : Sta) (v : Vws) : List Nat × Int := if seq < 0 ∨ seq > 1048576 then ([], 1) else if (bodyF s v).2 = 0 then (sealL (headL seq.toNat (bodyF s v).1), 0) else ([], (bodyF s v).2)
theorem bodyF_len (s : Sta) (v : Vws) : (bodyF s v).1.length ≤ 1048556 := by
  unfold bodyF; repeat' split
  all_goals first | (simp only [List.length_nil]; omega) | (simp only; omega)
theorem short_byt : ∀ n, Byt (short n) := by
  intro n
  induction n using Nat.strongRecOn with
  | ind n ih =>
    by_cases h : n < 128
    · rw [short_lt h]; intro b hb; simp at hb; omega
    · rw [short_ge h]
      intro b hb
      rcases List.mem_cons.1 hb with rfl | hb
      · omega
      · exact ih _ (by omega) b hb
theorem numsB_byt (xs : List Int) : Byt (numsB xs) := by
  intro b hb
  obtain ⟨n, _, h⟩ := List.mem_flatMap.1 hb
  exact short_byt _ b h
theorem flagB_byt (b : Bool) : Byt (flagB b) := by intro x hx; cases b <;> simp [flagB] at hx <;> omega
theorem manyB_byt {n : Nat} {ob : Nat → List Nat} (h : ∀ k, k < n → Byt (ob k)) : Byt (manyB n ob) := by
  refine (short_byt _).app ?_
  intro b hb
  obtain ⟨k, hk, h1⟩ := List.mem_flatMap.1 hb
  exact h k (List.mem_range.1 hk) b h1
theorem side_byt {x : Int} (h : 0 ≤ x ∧ x < 256) : Byt [x.toNat] := by intro b hb; simp at hb; omega
theorem stateB_byt {s : Sta} (hb : StaB s) : Byt (stateB s) := by
  obtain ⟨b1, b1n, b2, b2n, b3, b4, b4n, b5, b5n⟩ := hb
  refine (numsB_byt _).app ((manyB_byt fun k hk => ?_).app ((manyB_byt fun k hk => ?_).app ((manyB_byt fun k hk => ?_).app ((manyB_byt fun k hk => ?_).app (manyB_byt fun k hk => ?_)))))
  · exact ((short_byt _).app (byt_str _)).app (flagB_byt _)
  · exact ((short_byt _).app (byt_str _)).app ((numsB_byt _).app (flagB_byt _))
  · exact numsB_byt _
  · exact (numsB_byt _).app ((side_byt (b4n k hk)).app (numsB_byt _))
  · exact (numsB_byt _).app ((flagB_byt _).app ((numsB_byt _).app (manyB_byt fun k hk => numsB_byt _)))
theorem viewsB_byt {v : Vws} (hb : VwB v) : Byt (viewsB v) := by
  obtain ⟨b1, b1n, b2, b3, b4, b4n⟩ := hb
  refine (manyB_byt fun k hk => ?_).app ((manyB_byt fun k hk => ?_).app ((manyB_byt fun k hk => ?_).app (manyB_byt fun k hk => ?_)))
  · exact (numsB_byt _).app ((side_byt (b1n k hk)).app (numsB_byt _))
  · exact numsB_byt _
  · exact numsB_byt _
  · exact (numsB_byt _).app ((side_byt (b4n k hk)).app (numsB_byt _))
theorem bodyL_byt {s : Sta} {v : Vws} (hb : StaB s) (hv : VwB v) : Byt (bodyL s v) := (stateB_byt hb).app (viewsB_byt hv)
theorem bodyF_byt {s : Sta} {v : Vws} (hb : mayS s = true → StaB s) (hv : VwB v) : Byt (bodyF s v).1 := by
  have h0 : Byt [] := fun b hb => by cases hb
  unfold bodyF
  by_cases h : (mayS s && viewsF v) = true
  · rw [if_pos h]
    split
    · exact h0
    · exact bodyL_byt (hb (by simp at h; exact h.1)) hv
  · rw [if_neg h]; exact h0
theorem be4_byt (n : Nat) : Byt (be4 n) := by
  intro b hb
  simp only [be4, List.mem_cons, List.not_mem_nil, or_false] at hb; omega
theorem be8_byt (n : Nat) : Byt (be8 n) := by
  intro b hb
  simp only [be8, List.mem_cons, List.not_mem_nil, or_false] at hb; omega
theorem headL_byt {n : Nat} {b : List Nat} (h : Byt b) : Byt (headL n b) := by
  refine Byt.app (fun b hb => ?_) ((be8_byt _).app ((be4_byt _).app h))
  simp only [List.mem_cons, List.not_mem_nil, or_false] at hb; omega
theorem headL_len (n : Nat) (b : List Nat) : (headL n b).length = 16 + b.length := by
  unfold headL
  simp only [List.length_append, List.length_cons, List.length_nil, show (be8 n).length = 8 from rfl, show (be4 b.length).length = 4 from rfl]
  omega
set_option maxHeartbeats 2000000 in
theorem c_File {F : Frag} (seq : Int) (s : Sta) (p : SPt) (v : Vws) (q : VPt) (hW : SnW s v) (w0 : World) (hF : Mem w0 F) (hs : StaM F s p) (hv : VwM F v q) :
    Calls Tryz.prog 11 [.int .i64 seq, .agg (s.cells p).toArray, .agg (v.cells q).toArray].toArray w0 (Ret (.tuple #[.string (bytesOf (fileF seq s v).1), .int .i64 (fileF seq s v).2]) w0) := by
  have hB := fun w hM => c_Body s p v q hW w hM hs hv
  by_cases h1 : seq < 0 ∨ seq > 1048576
  · refine enter [.tmp 6, .tmp 7] Tryz.func11 rfl Tryz.ntmps11 rfl rfl ?_
    have H := St.start w0
    repeat' (first | refine y1 sg ?_ | refine y3 ?_ | refine y5 sg ?_ | (refine y9 H ?_; intro b w H) | refine y13 ?_ | refine y14 ?_ | (refine y17 ?_ ?_; all_goals (intro h; try (exfalso; first | ((simp only [decide_eq_true_eq, decide_eq_false_iff_not, gt_iff_lt] at *; omega); done)))) | with_reducible apply OW.nil | with_reducible apply thn_n | with_reducible apply CW.seq | refine CW.region ?_ | with_reducible apply CW.ret | with_reducible apply thn_r | refine y21 ?_ | (refine y23 ?_ ?_; all_goals (intro h; try (exfalso; first | ((simp only [decide_eq_true_eq, decide_eq_false_iff_not, gt_iff_lt] at *; omega); done)))) | fail)
    all_goals exact ret2 rfl rfl H.cl (by unfold fileF; rw [if_pos h1]; rfl)
  · obtain ⟨n, rfl⟩ : ∃ n : Nat, seq = (n : Int) := ⟨seq.toNat, by omega⟩
    have hlen := bodyF_len s v
    have hbt := bodyF_byt hW.sb hW.vb
    have hF1 : fileF (n : Int) s v = if (bodyF s v).2 = 0 then (sealL (headL n (bodyF s v).1), 0) else ([], (bodyF s v).2) := by unfold fileF; rw [if_neg h1, Int.toNat_natCast]
    rw [hF1]
    obtain ⟨⟨B, e⟩, hx⟩ : ∃ x, bodyF s v = x := ⟨_, rfl⟩
    rw [hx] at hB hlen hbt ⊢
    simp only at hB hlen hbt ⊢
    have hsz : (bytesOf B).size = B.length := bytesOf_len B
    have hst : strL (bytesOf B) = B := strL_bytesOf hbt
    by_cases he : e = 0
    · subst he
      have hw64 : IntKind.u64.wrap (n : Int) = (n : Int) := w64u (by omega)
      have hw32 : IntKind.u32.wrap ((bytesOf B).size : Int) = (B.length : Int) := by
        have : IntKind.u32.wrap ((B.length : Nat) : Int) = ((B.length % 4294967296 : Nat) : Int) := by simp [IntKind.wrap, IntKind.bits, IntKind.signed]
        rw [hsz, this, Nat.mod_eq_of_lt (by omega)]
      have hm : strL ⟨#[115, 110, 112, 49]⟩ = [115, 110, 112, 49] := by decide
      have htot : ((([] ++ strL ⟨#[115, 110, 112, 49]⟩) ++ be8 n) ++ be4 B.length) ++ strL (bytesOf B) = headL n B := by
        rw [hm, hst]; simp [headL]
      have hhl := headL_len n B
      have hhb := headL_byt (n := n) hbt
      refine enter [.tmp 6, .tmp 7] Tryz.func11 rfl Tryz.ntmps11 rfl rfl ?_
      have H := St.start w0
      repeat' (first | refine y1 sg ?_ | refine y3 ?_ | refine y5 sg ?_ | refine y7 sg H ?_ | (refine y9 H ?_; intro b w H) | (refine' y30 ent10 ?_ ?_; rotate_left; exact hB _ (H.memF hF); intro w hcl; replace H := H.ext hcl; clear hcl) | (refine' y33 ent39 ?_ ?_; rotate_left 2; exact c_WRaw (M := [_]) (l := []) ⟨#[115, 110, 112, 49]⟩ (by decide) H (Wr.first _) (by decide); rintro v N w ⟨rfl, M, rfl, hM⟩ H) | (refine' y33 ent40 ?_ ?_; rotate_left 2; exact c_U64 n hw64 H hM (by rw [hm]; simp); rintro v N w ⟨rfl, M, rfl, hM⟩ H) | (refine' y33 ent41 ?_ ?_; rotate_left 2; exact c_U32 B.length (by omega) hw32 H hM (by rw [hm]; simp [be8]); rintro v N w ⟨rfl, M, rfl, hM⟩ H) | (refine' y33 ent39 ?_ ?_; rotate_left 2; exact c_WRaw (bytesOf B) (by omega) H hM (by rw [hm]; simp [be8, be4]); rintro v N w ⟨rfl, M, rfl, hM⟩ H; rw [htot] at hM) | (refine' y30 ent38 ?_ ?_; rotate_left; exact c_WBytes _ H.mem (List.subset_append_left _ _) hM (by omega); intro w hcl; replace H := H.ext hcl; clear hcl) | (refine' y30 ent42 ?_ ?_; rotate_left; exact c_Seal (bytesOf (headL n B)) (by rw [bytesOf_len]; omega) _; intro w hcl; replace H := H.ext hcl; clear hcl) | refine y13 ?_ | with_reducible apply OW.nil | with_reducible apply thn_n | with_reducible apply CW.seq | refine CW.region ?_ | with_reducible apply CW.ret | with_reducible apply CW.skip | refine y22 ?_ | (refine y23 ?_ ?_; all_goals (intro h; try (exfalso; first | ((simp only [decide_eq_true_eq, decide_eq_false_iff_not, gt_iff_lt] at *; omega); done)))) | fail)
      all_goals exact ret2 rfl rfl H.cl (by rw [if_pos rfl, strL_bytesOf hhb])
    · have hd : (e != 0) = true := by simp [he]
      refine enter [.tmp 6, .tmp 7] Tryz.func11 rfl Tryz.ntmps11 rfl rfl ?_
      have H := St.start w0
      repeat' (first | refine y1 sg ?_ | refine y3 ?_ | refine y5 sg ?_ | refine y7 sg H ?_ | (refine y9 H ?_; intro b w H) | (refine' y30 ent10 ?_ ?_; rotate_left; exact hB _ (H.memF hF); intro w hcl; replace H := H.ext hcl; clear hcl) | refine y13 ?_ | with_reducible apply OW.nil | with_reducible apply thn_n | with_reducible apply CW.seq | refine CW.region ?_ | with_reducible apply CW.ret | with_reducible apply CW.skip | with_reducible apply thn_r | (refine y23 ?_ ?_; all_goals (intro h; try (exfalso; first | ((rw [hd] at h; cases h); done) | ((simp only [decide_eq_true_eq, decide_eq_false_iff_not, gt_iff_lt] at *; omega); done)))) | fail)
      all_goals exact ret2 rfl rfl H.cl (by rw [if_neg he]; rfl)
end Go.Proofs.YtggolnppckpdlaaGreat
set_option linter.unusedSimpArgs false
set_option linter.unusedVariables false
namespace Go.Proofs.YtggolnppckpdlaaGreat
open Go Go.Sk Go.RowKit
theorem uq_acc : Uniq accP := by
  refine uq_map (P := sqP (sqP (nilP) (textP 24)) flagP) (fun z => (⟨z.1.2, z.2⟩ : Ac)) (fun x => (((), x.name), x.opn)) (uq_seq (uq_seq (uq_nil) uq_text) uq_flag) ?_
  rintro x l ⟨a0, rfl⟩
  exact ⟨by cases x; simp_all, ⟨_, _, ⟨_, _, rfl, ⟨a0, rfl⟩, rfl⟩, rfl, by simp [List.append_assoc]⟩⟩
theorem uq_ins : Uniq insP := by
  refine uq_map (P := sqP (sqP (sqP (nilP) (textP 24)) (numP 4611686018427387904)) flagP) (fun z => (⟨z.1.1.2, z.1.2, z.2⟩ : Ins)) (fun x => ((((), x.name), x.tick), x.halted)) (uq_seq (uq_seq (uq_seq (uq_nil) uq_text) (uq_num (by decide))) uq_flag) ?_
  rintro x l ⟨a0, ⟨a1, b1⟩, rfl⟩
  exact ⟨by cases x; simp_all, ⟨_, _, ⟨_, _, ⟨_, _, rfl, ⟨a0, rfl⟩, rfl⟩, ⟨a1, b1, rfl⟩, rfl⟩, rfl, by simp [List.append_assoc]⟩⟩
theorem uq_ord : Uniq ordP := by
  refine uq_map (P := sqP (sqP (sqP (sqP (sqP (sqP (nilP) (numP 4611686018427387904)) (numP 64)) (numP 16)) (fixP 1)) (numP 4611686018427387904)) (numP 4611686018427387904)) (fun z => (⟨z.1.1.1.1.1.2, z.1.1.1.1.2, z.1.1.1.2, ((z.1.1.2 : Nat) : Int), z.1.2, z.2⟩ : Odr)) (fun x => (((((((), x.id), x.acct), x.inst), x.side.toNat), x.price), x.left)) (uq_seq (uq_seq (uq_seq (uq_seq (uq_seq (uq_seq (uq_nil) (uq_num (by decide))) (uq_num (by decide))) (uq_num (by decide))) uq_fix1) (uq_num (by decide))) (uq_num (by decide))) ?_
  rintro x l ⟨⟨a0, b0⟩, ⟨a1, b1⟩, ⟨a2, b2⟩, ⟨a3, b3⟩, ⟨a4, b4⟩, ⟨a5, b5⟩, rfl⟩
  exact ⟨by have := Int.toNat_of_nonneg a3; cases x; simp_all, ⟨_, _, ⟨_, _, ⟨_, _, ⟨_, _, ⟨_, _, ⟨_, _, rfl, ⟨a0, b0, rfl⟩, rfl⟩, ⟨a1, b1, rfl⟩, rfl⟩, ⟨a2, b2, rfl⟩, rfl⟩, ⟨by show Int.toNat _ < 256; omega, rfl⟩, rfl⟩, ⟨a4, b4, rfl⟩, rfl⟩, ⟨a5, b5, rfl⟩, by simp [List.append_assoc]⟩⟩
theorem uq_bid : Uniq bidP := by
  refine uq_map (P := sqP (sqP (nilP) (numP 64)) (numP 4611686018427387904)) (fun z => (⟨z.1.2, z.2⟩ : Bid)) (fun x => (((), x.acct), x.amount)) (uq_seq (uq_seq (uq_nil) (uq_num (by decide))) (uq_num (by decide))) ?_
  rintro x l ⟨⟨a0, b0⟩, ⟨a1, b1⟩, rfl⟩
  exact ⟨by cases x; simp_all, ⟨_, _, ⟨_, _, rfl, ⟨a0, b0, rfl⟩, rfl⟩, ⟨a1, b1, rfl⟩, by simp [List.append_assoc]⟩⟩
theorem uq_opn : Uniq opnP := by
  refine uq_map (P := sqP (sqP (sqP (sqP (sqP (sqP (nilP) (numP 64)) (numP 4611686018427387904)) (numP 16)) (fixP 1)) (numP 4611686018427387904)) (numP 4611686018427387904)) (fun z => (⟨z.1.1.1.1.1.2, z.1.1.1.1.2, z.1.1.1.2, ((z.1.1.2 : Nat) : Int), z.1.2, z.2⟩ : Opn)) (fun x => (((((((), x.acct), x.id), x.inst), x.side.toNat), x.price), x.left)) (uq_seq (uq_seq (uq_seq (uq_seq (uq_seq (uq_seq (uq_nil) (uq_num (by decide))) (uq_num (by decide))) (uq_num (by decide))) uq_fix1) (uq_num (by decide))) (uq_num (by decide))) ?_
  rintro x l ⟨⟨a0, b0⟩, ⟨a1, b1⟩, ⟨a2, b2⟩, ⟨a3, b3⟩, ⟨a4, b4⟩, ⟨a5, b5⟩, rfl⟩
  exact ⟨by have := Int.toNat_of_nonneg a3; cases x; simp_all, ⟨_, _, ⟨_, _, ⟨_, _, ⟨_, _, ⟨_, _, ⟨_, _, rfl, ⟨a0, b0, rfl⟩, rfl⟩, ⟨a1, b1, rfl⟩, rfl⟩, ⟨a2, b2, rfl⟩, rfl⟩, ⟨by show Int.toNat _ < 256; omega, rfl⟩, rfl⟩, ⟨a4, b4, rfl⟩, rfl⟩, ⟨a5, b5, rfl⟩, by simp [List.append_assoc]⟩⟩
theorem uq_lot : Uniq lotP := by
  refine uq_map (P := sqP (sqP (sqP (sqP (nilP) (numP 4611686018427387904)) (numP 64)) (numP 16)) (numP 4611686018427387904)) (fun z => (⟨z.1.1.1.2, z.1.1.2, z.1.2, z.2⟩ : Lt)) (fun x => (((((), x.id), x.seller), x.inst), x.qty)) (uq_seq (uq_seq (uq_seq (uq_seq (uq_nil) (uq_num (by decide))) (uq_num (by decide))) (uq_num (by decide))) (uq_num (by decide))) ?_
  rintro x l ⟨⟨a0, b0⟩, ⟨a1, b1⟩, ⟨a2, b2⟩, ⟨a3, b3⟩, rfl⟩
  exact ⟨by cases x; simp_all, ⟨_, _, ⟨_, _, ⟨_, _, ⟨_, _, rfl, ⟨a0, b0, rfl⟩, rfl⟩, ⟨a1, b1, rfl⟩, rfl⟩, ⟨a2, b2, rfl⟩, rfl⟩, ⟨a3, b3, rfl⟩, by simp [List.append_assoc]⟩⟩
theorem uq_pos : Uniq posP := by
  refine uq_map (P := sqP (sqP (sqP (sqP (sqP (sqP (nilP) (numP 64)) (numP 16)) (numP 4611686018427387904)) (numP 4611686018427387904)) (numP 4611686018427387904)) (numP 4611686018427387904)) (fun z => (⟨z.1.1.1.1.1.2, z.1.1.1.1.2, z.1.1.1.2, z.1.1.2, z.1.2, z.2⟩ : Psn)) (fun x => (((((((), x.acct), x.inst), x.bought), x.sold), x.spent), x.got)) (uq_seq (uq_seq (uq_seq (uq_seq (uq_seq (uq_seq (uq_nil) (uq_num (by decide))) (uq_num (by decide))) (uq_num (by decide))) (uq_num (by decide))) (uq_num (by decide))) (uq_num (by decide))) ?_
  rintro x l ⟨⟨a0, b0⟩, ⟨a1, b1⟩, ⟨a2, b2⟩, ⟨a3, b3⟩, ⟨a4, b4⟩, ⟨a5, b5⟩, rfl⟩
  exact ⟨by cases x; simp_all, ⟨_, _, ⟨_, _, ⟨_, _, ⟨_, _, ⟨_, _, ⟨_, _, rfl, ⟨a0, b0, rfl⟩, rfl⟩, ⟨a1, b1, rfl⟩, rfl⟩, ⟨a2, b2, rfl⟩, rfl⟩, ⟨a3, b3, rfl⟩, rfl⟩, ⟨a4, b4, rfl⟩, rfl⟩, ⟨a5, b5, rfl⟩, by simp [List.append_assoc]⟩⟩
theorem uq_lin : Uniq linP := by
  refine uq_map (P := sqP (sqP (sqP (sqP (sqP (nilP) (numP 64)) (numP 4611686018427387904)) (fixP 1)) (numP 4611686018427387904)) (numP 4611686018427387904)) (fun z => (⟨z.1.1.1.1.2, z.1.1.1.2, ((z.1.1.2 : Nat) : Int), unfoldI (z.1.2), z.2⟩ : Ln)) (fun x => ((((((), x.acct), x.seq), x.kind.toNat), (foldZ x.delta)), x.bal)) (uq_seq (uq_seq (uq_seq (uq_seq (uq_seq (uq_nil) (uq_num (by decide))) (uq_num (by decide))) uq_fix1) (uq_num (by decide))) (uq_num (by decide))) ?_
  rintro x l ⟨⟨a0, b0⟩, ⟨a1, b1⟩, ⟨a2, b2⟩, ⟨a3, b3⟩, ⟨a4, b4⟩, edelta, rfl⟩
  exact ⟨by have := Int.toNat_of_nonneg a2; cases x; simp_all, ⟨_, _, ⟨_, _, ⟨_, _, ⟨_, _, ⟨_, _, rfl, ⟨a0, b0, rfl⟩, rfl⟩, ⟨a1, b1, rfl⟩, rfl⟩, ⟨by show Int.toNat _ < 256; omega, rfl⟩, rfl⟩, ⟨a3, b3, rfl⟩, rfl⟩, ⟨a4, b4, rfl⟩, by simp [List.append_assoc]⟩⟩
theorem uq_row : Uniq rowP := by
  refine uq_map (P := rowS) (fun z => belowR ⟨z.1.1.1.2, z.1.1.2, z.1.2, z.2⟩) (fun x => (((((), x.acct), x.asset), (belowR x).free), x.held)) ?_ row_QP
  exact uq_seq (uq_seq (uq_seq (uq_seq uq_nil (uq_num (by decide))) (uq_num (by decide))) (uq_num (by decide))) (uq_num (by decide))
theorem uq_auc : Uniq aucP := by
  refine uq_map (P := aucS) aucOf aucT ?_ (fun z l h => ⟨rfl, h⟩)
  exact uq_seq (uq_seq (uq_seq (uq_seq (uq_seq (uq_seq (uq_seq (uq_seq (uq_seq uq_nil (uq_num (by decide))) (uq_num (by decide))) (uq_num (by decide))) uq_flag) (uq_num (by decide))) (uq_num (by decide))) (uq_num (by decide))) (uq_num (by decide))) (uq_list uq_bid)
theorem acc_B {x : Ac} {l : List Nat} (h : accP x l) : l = accB x := by obtain ⟨_, rfl⟩ := h; rfl
theorem ins_B {x : Ins} {l : List Nat} (h : insP x l) : l = insB x := by obtain ⟨_, _, rfl⟩ := h; simp [insB, numsB]
theorem row_B {x : Row4} {l : List Nat} (h : rowP x l) : l = rowB x := h.2.2.2.2.2
theorem ord_B {x : Odr} {l : List Nat} (h : ordP x l) : l = ordB x := by
  obtain ⟨_, _, _, ⟨a, b⟩, _, _, rfl⟩ := h
  simp [ordB, numsB, beK, Nat.mod_eq_of_lt (show x.side.toNat < 256 by omega)]
theorem bid_B {x : Bid} {l : List Nat} (h : bidP x l) : l = bidB x := by obtain ⟨_, _, rfl⟩ := h; simp [bidB, numsB]
theorem opn_B {x : Opn} {l : List Nat} (h : opnP x l) : l = opnB x := by
  obtain ⟨_, _, _, ⟨a, b⟩, _, _, rfl⟩ := h
  simp [opnB, numsB, beK, Nat.mod_eq_of_lt (show x.side.toNat < 256 by omega)]
theorem lot_B {x : Lt} {l : List Nat} (h : lotP x l) : l = lotB x := by obtain ⟨_, _, _, _, rfl⟩ := h; simp [lotB, numsB]
theorem pos_B {x : Psn} {l : List Nat} (h : posP x l) : l = posB x := by obtain ⟨_, _, _, _, _, _, rfl⟩ := h; simp [posB, numsB]
theorem foldZ_I {d : Int} (h0 : d ≠ 0) (h1 : -4611686018427387904 ≤ d) (h2 : d ≤ 4611686018427387903) : foldI d = foldZ d := by
  unfold foldI foldZ
  by_cases h : d > 0
  · rw [if_pos h, if_pos h, w64 (by omega) (by omega)]
  · rw [if_neg h, if_neg h, if_neg h0]
    by_cases h3 : d = -4611686018427387904
    · subst h3; decide
    · rw [w64 (x := -2 * d) (by omega) (by omega), w64 (by omega) (by omega)]
theorem lin_B {x : Ln} {l : List Nat} (h0 : x.delta ≠ 0) (h : linP x l) : l = linB x := by
  obtain ⟨_, _, ⟨a, b⟩, ⟨c, d⟩, _, e, rfl⟩ := h
  have hb : -4611686018427387904 ≤ x.delta ∧ x.delta ≤ 4611686018427387903 := by
    unfold foldZ at c d
    by_cases h : x.delta > 0
    · rw [if_pos h] at d; omega
    · rw [if_neg h, if_neg h0] at d; omega
  simp [linB, numsB, beK, Nat.mod_eq_of_lt (show x.kind.toNat < 256 by omega), foldZ_I h0 hb.1 hb.2]
theorem many_B {α : Type} [Inhabited α] {P : α → List Nat → Prop} {B : α → List Nat} {xs : List α} (h : ∀ x ∈ xs, ∀ l, P x l → l = B x) : ∀ {l : List Nat}, manyP P xs l → l = xs.flatMap B := by
  induction xs with
  | nil => rintro l rfl; rfl
  | cons x xs ih =>
    rintro l ⟨a, b, p, q, rfl⟩
    rw [List.flatMap_cons, h x (List.mem_cons_self) a p, ih (fun y hy => h y (List.mem_cons_of_mem _ hy)) q]
theorem B_many {α : Type} {P : α → List Nat → Prop} {B : α → List Nat} {xs : List α} (h : ∀ x ∈ xs, P x (B x)) : manyP P xs (xs.flatMap B) := by
  induction xs with
  | nil => rfl
  | cons x xs ih => exact ⟨B x, xs.flatMap B, h x (List.mem_cons_self), ih (fun y hy => h y (List.mem_cons_of_mem _ hy)), by rw [List.flatMap_cons]⟩
theorem flat_range {α : Type} [Inhabited α] (B : α → List Nat) (xs : List α) : (List.range xs.length).flatMap (fun k => B (xs.getD k default)) = xs.flatMap B := by
  have h : (List.range xs.length).map (fun k => xs.getD k default) = xs := by
    apply List.ext_getElem
    · simp
    · intro i h1 h2
      simp [List.getD_eq_getElem?_getD, List.getElem?_eq_getElem h2]
  conv => rhs; rw [← h, List.flatMap_map]
theorem list_B {α : Type} [Inhabited α] {P : α → List Nat → Prop} {B : α → List Nat} {xs : List α} (h : ∀ x ∈ xs, ∀ l, P x l → l = B x) {l : List Nat} (hl : listP P xs l) : l = manyB xs.length (fun k => B (xs.getD k default)) := by
  obtain ⟨l2, h2, rfl⟩ := hl
  unfold manyB
  rw [flat_range, many_B h h2]
theorem B_list {α : Type} [Inhabited α] {P : α → List Nat → Prop} {B : α → List Nat} {xs : List α} (h : ∀ x ∈ xs, P x (B x)) : listP P xs (manyB xs.length (fun k => B (xs.getD k default))) := by
  refine ⟨_, B_many h, ?_⟩
  unfold manyB
  rw [flat_range]
theorem auc_B {x : Auc} {l : List Nat} (h : aucP x l) : l = aucB x := by
  obtain ⟨_, l2, ⟨_, _, ⟨_, _, ⟨_, _, ⟨_, _, ⟨_, _, ⟨_, _, ⟨_, _, ⟨_, _, h0, h1, rfl⟩, h2, rfl⟩, h3, rfl⟩, h4, rfl⟩, h5, rfl⟩, h6, rfl⟩, h7, rfl⟩, h8, rfl⟩, h9, rfl⟩ := h
  rw [show l2 = bidsB x.bids from list_B (B := bidB) (fun x _ l => bid_B) h9]
  simp only [nilP, flagP] at h0 h4
  rw [h0, h1.2.2, h2.2.2, h3.2.2, h4, h5.2.2, h6.2.2, h7.2.2, h8.2.2]
  simp [aucB, numsB, aucT]
end Go.Proofs.YtggolnppckpdlaaGreat
set_option linter.unusedSimpArgs false
set_option linter.unusedVariables false
namespace Go.Proofs.YtggolnppckpdlaaGreat
open Go Go.Sk Go.RowKit
def OwnB (M : Frag) (a : Option Addr) (cap : Nat) (l : List Bid) : Prop := Go.Sk.Own M 78 2 a l.length cap ((List.range l.length).flatMap (bel l))
theorem bel_len (l : List Bid) (j : Nat) : (bel l j).length = 2 := rfl
theorem OwnB.bids {M F : Frag} {a : Option Addr} {cap : Nat} {l : List Bid} (h : OwnB M a cap l) (hM : M ⊆ F) (hn : l.length ≤ 140737488355328) : Bids F a cap l := Go.Sk.Own.sl h hM (fun j _ => bel_len l j) hn
def Auc.zero : Auc := ⟨0, 0, 0, false, 0, 0, 0, 0, []⟩
def Bid.zero : Bid := ⟨0, 0⟩
end Go.Proofs.YtggolnppckpdlaaGreat
set_option linter.unusedSimpArgs false
set_option linter.unusedVariables false
namespace Go.Proofs.YtggolnppckpdlaaGreat
open Go Go.Sk Go.RowKit
def eleastF (x : Auc) : Int := if (x.bids.length : Int) == 0 then x.reserve else (addF (x.bids.getD 0 default).amount x.step).1
end Go.Proofs.YtggolnppckpdlaaGreat
set_option linter.unusedSimpArgs false
set_option linter.unusedVariables false
namespace Go.Proofs.YtggolnppckpdlaaGreat
open Go Go.Sk Go.RowKit
def stakeF (x : Auc) (b : Bid) : List Bid × Int :=
  if idx (fun i => (x.bids.getD i default).acct == b.acct) x.bids.length ≥ 0 then ([], 6) else if (x.bids.length : Int) ≥ 16 then ([], 40) else (x.bids ++ [b], 0)
def etakeF (x : Auc) (y : Bid) : List Bid × Int := if y.amount < eleastF x then ([], 51) else ([y], 0)
def Auc.put (x : Auc) (l : List Bid) : Auc := ⟨x.id, x.seller, x.inst, x.sealed, x.qty, x.reserve, x.step, x.fin, l⟩
def manF (x : Auc) (y : Bid) : List Bid × Int := if x.sealed then stakeF x y else etakeF x y
def takeF (x : Auc) (y : Bid) : Auc × Int :=
  if mayF x = false then (Auc.zero, 4) else if (within y.acct 64 && within y.amount 1125899906842624) = false then (Auc.zero, 1) else if y.acct == x.seller then (Auc.zero, 49)
  else if (manF x y).2 != 0 then (Auc.zero, (manF x y).2) else (x.put (manF x y).1, 0)
end Go.Proofs.YtggolnppckpdlaaGreat
set_option linter.unusedSimpArgs false
set_option linter.unusedVariables false
namespace Go.Proofs.YtggolnppckpdlaaGreat
open Go Go.Sk Go.RowKit
theorem flat_len_s {el : Nat → List Value} {size n : Nat} (hel : ∀ j, j < n → (el j).length = size) : ((List.range n).flatMap el).length = n * size := by
  induction n with
  | zero => simp
  | succ n ih => rw [List.range_succ, List.flatMap_append, List.length_append, ih (fun j hj => hel j (by omega)), List.flatMap_singleton, hel n (by omega), Nat.succ_mul]
theorem flat_at_s {size n b off : Nat} {a : Option Addr} {cs : List Value} {T : TypeId} {fr : Nat × Nat} {F : Frag} {el : Nat → List Value} (hs : SlB F size a n b off cs T fr el) (hel : ∀ j, j < n → (el j).length = size) :
    ∀ m, m ≤ n → ∀ j u, ((List.range m).flatMap el)[j]? = some u → cs[off + j]? = some u := by
  intro m
  induction m with
  | zero => intro _ j u hj; cases hj
  | succ m ih =>
    intro hm j u hj
    have hlen : ((List.range m).flatMap el).length = m * size := flat_len_s fun j hj => hel j (by omega)
    rw [List.range_succ, List.flatMap_append, List.flatMap_singleton] at hj
    by_cases hjm : j < m * size
    · rw [List.getElem?_append_left (by rw [hlen]; exact hjm)] at hj
      exact ih (by omega) j u hj
    · rw [List.getElem?_append_right (by rw [hlen]; omega), hlen] at hj
      have h2 := ((hs (by omega)).2.2 m (by omega)).2
      rw [← h2, List.getElem?_take] at hj
      split at hj
      · rw [List.getElem?_drop] at hj
        rw [show off + j = off + m * size + (j - m * size) by omega]; exact hj
      · cases hj
end Go.Proofs.YtggolnppckpdlaaGreat
set_option linter.unusedSimpArgs false
set_option linter.unusedVariables false
namespace Go.Proofs.YtggolnppckpdlaaGreat
open Go Go.Sk Go.RowKit
abbrev AE := Auc × Option Addr × Nat
def AE.c (p : AE) : List Value := p.1.cells p.2.1 p.2.2
theorem AE.c_len (p : AE) : p.c.length = 9 := rfl
def sw (d : Nat → AE) (i j : Nat) : Nat → AE := fun k => if k = i then d j else if k = j then d i else d k
structure Arr (w0 : World) (g : Nat) (len n : Nat) (G : Frag) (d : Nat → AE) (cs : List Value) (w : World) : Prop where
  st : St w0 (cb g cs 81 :: G) w
  len : cs.length = len
  els : Els cs 9 n (fun j => (d j).c)
theorem Arr.ext {w0 w w' : World} {g len n : Nat} {G : Frag} {d : Nat → AE} {cs : List Value} (h : Arr w0 g len n G d cs w) (k : Cl w w') : Arr w0 g len n G d cs w' := ⟨h.st.ext k, h.len, h.els⟩
def upd (d : Nat → AE) (k : Nat) (v : AE) : Nat → AE := fun t => if t = k then v else d t
theorem Arr.fit {w0 w : World} {g len n k : Nat} {G : Frag} {d : Nat → AE} {cs : List Value} (h : Arr w0 g len n G d cs w) (hk : k < n) (v : AE) : 0 + k * 9 + v.c.length ≤ cs.length := by
  have := (h.els k hk).1
  rw [AE.c_len]; omega
theorem Arr.put {w0 w w' : World} {g len n k : Nat} {G : Frag} {d : Nat → AE} {cs : List Value} {v : AE} (h : Arr w0 g len n G d cs w) (hk : k < n) (hs : St w0 (cb g (wr cs (0 + k * 9) v.c) 81 :: G) w') :
    Arr w0 g len n G (upd d k v) (wr cs (0 + k * 9) v.c) w' :=
  ⟨hs, by rw [wr_len (h.fit hk v)]; exact h.len, by rw [Nat.zero_add]; exact (h.els.wr hk (AE.c_len v)).congr (fun j _ => by unfold upd; split <;> rfl)⟩
end Go.Proofs.YtggolnppckpdlaaGreat
set_option linter.unusedSimpArgs false
set_option linter.unusedVariables false
namespace Go.Proofs.YtggolnppckpdlaaGreat
open Go Go.Sk Go.RowKit
attribute [local irreducible] Go.Calls
theorem Bids.none (F : Frag) : Bids F none 0 [] := ⟨Nat.le_refl _, by decide, 0, 0, [], 0, (0, 0), fun h => absurd h (by decide)⟩
theorem Bids.blk {F : Frag} {b cap : Nat} {T : TypeId} (l : List Bid) (hm : cb b ((List.range l.length).flatMap (bel l)) T ∈ F) (hc : l.length ≤ cap) (hn : l.length ≤ 140737488355328) : Bids F (some ⟨b, 0, Option.none⟩) cap l := by
  refine ⟨hc, hn, b, 0, _, T, (0, 0), fun _ => ⟨rfl, hm, fun j hj => ?_⟩⟩
  have hl := flat_len (el := bel l) (size := 2) l.length (fun j _ => bel_len l j)
  refine ⟨by rw [hl]; omega, ?_⟩
  rw [Nat.zero_add]
  exact flat_at l.length (fun j _ => bel_len l j) j hj
theorem Aucs.blk {F : Frag} {b cap : Nat} {T : TypeId} (l : List Auc) (ad : Nat → Option Addr × Nat) (hm : cb b ((List.range l.length).flatMap (ael l ad)) T ∈ F) (hc : l.length ≤ cap) (hn : l.length ≤ 140737488355328) (hb : ∀ j, j < l.length → Bids F (ad j).1 (ad j).2 (l.getD j default).bids) : Aucs F (some ⟨b, 0, Option.none⟩) cap l ad := by
  refine ⟨⟨hc, hn, b, 0, _, T, (0, 0), fun _ => ⟨rfl, hm, fun j hj => ?_⟩⟩, hb⟩
  have hl := flat_len (el := ael l ad) (size := 9) l.length (fun j _ => rfl)
  refine ⟨by rw [hl]; omega, ?_⟩
  rw [Nat.zero_add]
  exact flat_at (el := ael l ad) (size := 9) l.length (fun j _ => rfl) j hj
theorem Bids.b1 {F : Frag} {b : Nat} {T : TypeId} {x y : Int} (hm : cb b [.int .i64 x, .int .i64 y] T ∈ F) : Bids F (some ⟨b, 0, Option.none⟩) 1 [⟨x, y⟩] := Bids.blk (cap := 1) [⟨x, y⟩] hm (Nat.le_refl _) (Nat.le_trans (Nat.le_refl 1) (by decide))
theorem Bids.b2 {F : Frag} {b : Nat} {T : TypeId} {x y x' y' : Int} (hm : cb b [.int .i64 x, .int .i64 y, .int .i64 x', .int .i64 y'] T ∈ F) : Bids F (some ⟨b, 0, Option.none⟩) 2 [⟨x, y⟩, ⟨x', y'⟩] := Bids.blk (cap := 2) [⟨x, y⟩, ⟨x', y'⟩] hm (Nat.le_refl _) (Nat.le_trans (Nat.le_refl 2) (by decide))
theorem Bids.b3 {F : Frag} {b : Nat} {T : TypeId} {x y x' y' x'' y'' : Int} (hm : cb b [.int .i64 x, .int .i64 y, .int .i64 x', .int .i64 y', .int .i64 x'', .int .i64 y''] T ∈ F) : Bids F (some ⟨b, 0, Option.none⟩) 3 [⟨x, y⟩, ⟨x', y'⟩, ⟨x'', y''⟩] := Bids.blk (cap := 3) [⟨x, y⟩, ⟨x', y'⟩, ⟨x'', y''⟩] hm (Nat.le_refl _) (Nat.le_trans (Nat.le_refl 3) (by decide))
end Go.Proofs.YtggolnppckpdlaaGreat
set_option linter.unusedSimpArgs false
set_option linter.unusedVariables false
namespace Go.Proofs.YtggolnppckpdlaaGreat
open Go Go.Sk Go.RowKit
theorem may_parts {x : Auc} (h : mayF x = true) : within x.id 1099511627776 = true ∧ within x.seller 64 = true ∧ within x.inst 16 = true ∧ within x.qty 1048576 = true ∧ within x.reserve 1125899906842624 = true ∧ within x.fin 1099511627776 = true ∧ mannerOk x = true ∧ bidsOk x = true := by
  simp only [mayF, Bool.and_eq_true] at h
  exact ⟨h.1.1.1.1.1.1.1, h.1.1.1.1.1.1.2, h.1.1.1.1.1.2, h.1.1.1.1.2, h.1.1.1.2, h.1.1.2, h.1.2, h.2⟩
theorem take_zero {x : Auc} {y : Bid} (h : (takeF x y).2 ≠ 0) : (takeF x y).1 = Auc.zero := by
  unfold takeF at h ⊢
  repeat' split
  all_goals first | rfl | (exfalso; simp_all; done)
structure Taken (x : Auc) (y : Bid) (c : Auc) : Prop where
  may : mayF x = true
  acct : within y.acct 64 = true
  amount : within y.amount 1125899906842624 = true
  other : y.acct ≠ x.seller
  put : c = x.put (manF x y).1
  ok : (manF x y).2 = 0
end Go.Proofs.YtggolnppckpdlaaGreat
