/- Texts of ours, joined: the steps of the proof, or the claim's theorem. -/
import Derived.Test.YtggolnppckpdlaaGreatR08
set_option linter.unusedSimpArgs false
set_option linter.unusedVariables false
namespace Go.Proofs.YtggolnppckpdlaaGreat
open Go Go.Sk Go.RowKit
attribute [local irreducible] Go.Calls
def zNa (F : zI) (a : Option Addr) (cap : Nat) (l : List Row4) : Prop := SlA F 4 a l.length cap (rwl l)
def Z64 (x : Int) : Prop := -9223372036854775808 ≤ x ∧ x ≤ 9223372036854775807
def Row4.wf (r : Row4) : Prop := Z64 r.free ∧ Z64 r.held
theorem eg294 : Tryz.prog.eqGuardType Tryz.prog.depth 294 = false := by kernel_rfl
def zGy (l : List Row4) (k : Nat) : Int := if k = 0 then -1 else (rw_ l (k - 1)).acct
def zGz (l : List Row4) (k : Nat) : Int := if k = 0 then 0 else (rw_ l (k - 1)).asset
theorem zNb {l : List Row4} {k : Nat} (h : zDU (rw_ l k)) : zJd (zGy l k) (zGz l k) (rw_ l k).acct (rw_ l k).asset < 0 ↔ (k = 0 ∨ LtR (rw_ l (k - 1)) (rw_ l k)) := by
 rw [zEY]
 unfold zGy zGz LtR
 have := h.1.1
 split
 ·rename_i h0; subst h0; simp; omega
 ·rename_i h0; simp [h0]
theorem Ints3 {F : zI} {b : Nat} {x y z : Int} {T : TypeId} {fr : Nat × Nat} (h : (b, Obj.cells [Value.int .i64 x, Value.int .i64 y, Value.int .i64 z].toArray T fr) ∈ F) : Ints F (some ⟨b, 0, none⟩) 3 [x, y, z] :=
 ⟨Nat.le_refl _, (by show 3 ≤ 140737488355328; omega), b, 0, _, T, fr, fun _ => ⟨rfl, h, fun j hj => by
  have : j = 0 ∨ j = 1 ∨ j = 2 := by simp at hj; omega
  rcases this with rfl | rfl | rfl <;> exact ⟨by simp, rfl⟩⟩⟩
theorem zEZ (l : List Row4) (a : Int) (k : Nat) : smR l a (k + 1) = if (rw_ l k).asset = a then smR l a k + ((rw_ l k).free + (rw_ l k).held) else smR l a k := by
 simp only [smR]
 split <;> omega
theorem zJe {r : Row4} (h : zDU r) : zEC r.acct r.free r.held = 0 := by
 obtain ⟨h1, h2, h3, h4⟩ := h
 unfold zEC
 (repeat' split) <;> omega
theorem zPP {r : Row4} (h1 : zBW r.acct r.asset = true) (h2 : zEC r.acct r.free r.held = 0) (h3 : ¬ (r.free = 0 ∧ r.held = 0)) (h4 : r.acct = 0 → r.held = 0) : zDU r := by
 refine ⟨(zDA _ _).1 h1, h3, h4, fun h0 => ?_⟩
 unfold zEC at h2
 rw [if_neg h0] at h2
 split at h2
 ·omega
 ·split at h2 <;> omega
theorem zEa {l : List Row4} (h : zBU l = true → False) : false = zBU l := by
 cases hq : zBU l with
 | false => rfl
 | true => exact (h hq).elim
set_option maxRecDepth 20000 in
set_option maxHeartbeats 8000000 in
theorem c_LMay {a : Option Addr} {cap : Nat} (l : List Row4) (hw : ∀ j, j < l.length → (rw_ l j).wf) {F : zI} (w0 : World) (hF : Mem w0 F) (hs : zNa F a cap l) :
  Calls Tryz.prog 236 [.slice a l.length cap].toArray w0 (Ret (.bool (zBU l)) w0) := by
 obtain ⟨hnc, hcb, b0, off, cs, T, fr, hs⟩ := hs
 refine enter [.tmp 2] Tryz.func236 rfl Tryz.ntmps236 rfl rfl ?_
 have H := zH w0
 repeat' (first | refine y1 sg ?_ | refine y3 ?_ | (refine y10 sg H ?_; intro b w H) | (refine y11 sg H ?_; intro w H) | (with_reducible first | apply zB | apply zD | apply zC | apply zE) | refine zA ?_ | fail)
 have H := (show St w0 [cb _ (zAN .i64 17 fun _ => 0) 294, cb _ (plc2 (-1) 0) 293] w from H)
 refine zK [(2, 2), (6, 9), (13, 89)] (fun k : Nat => [(13, .int .i64 (k : Int))])
  (fun k w => k ≤ l.length ∧ RowsP l k ∧ (∀ j, j < k → (rw_ l j).acct = 0 → (rw_ l j).free ≤ 0) ∧ (∀ j : Nat, j < 17 → -4611686018427387904 ≤ smR l j k ∧ smR l j k ≤ 4611686018427387904) ∧
   St w0 [cb _ (zAN .i64 17 fun j => smR l (j : Nat) k) 294, cb _ (plc2 (zGy l k) (zGz l k)) 293] w) (fun k => l.length - k) 0 ⟨rfl, trivial⟩
  ⟨Nat.zero_le _, fun j hj => absurd hj (Nat.not_lt_zero _), fun j hj => absurd hj (Nat.not_lt_zero _), fun j _ => by simp [smR], H⟩ ?_
 clear H
 rintro k gh w ⟨hk, hP, hz, hb, H⟩
 repeat' (first | refine y1 sg ?_ | (with_reducible first | apply zB | apply zD | apply zC) | refine zA ?_ | fail)
 refine zM rfl (fun h => ?_) (fun h => ?_)
 ·have hlt : k < l.length := by have := of_decide_eq_true h; omega
  clear h
  obtain ⟨⟨hf1, hf2⟩, hd1, hd2⟩ := hw k hlt
  have hgd := zGv (rw_ l k)
  have hcmp := zNb (l := l) (k := k)
  have hgi := zDA (rw_ l k).acct (rw_ l k).asset
  have hfacts : zBU l = true → zDU (rw_ l k) ∧ zJd (zGy l k) (zGz l k) (rw_ l k).acct (rw_ l k).asset < 0 ∧ zBW (rw_ l k).acct (rw_ l k).asset = true ∧ zEC (rw_ l k).acct (rw_ l k).free (rw_ l k).held = 0 ∧ ((rw_ l k).acct = 0 → (rw_ l k).free ≤ 0) := fun q => by
   obtain ⟨g, o⟩ := (zBT.1 q).1 k hlt
   exact ⟨g, (hcmp g).2 o, hgi.2 g.1, zJe g, fun h0 => (zEy q hlt h0).2⟩
  generalize hq : (rw_ l k).asset.toNat = q
  have sum : ∀ {F : zI} {b : Nat} {w : World}, (rw_ l k).asset = (q : Int) → q < 17 → Mem w (cb b [.int .i64 (smR l q k), .int .i64 (rw_ l k).free, .int .i64 (rw_ l k).held] 2 :: F) →
    Calls Tryz.prog 221 [.slice (some ⟨b, 0, none⟩) 3 3].toArray w (Ret (.tuple #[.int .i64 (zBo (smR l q (k + 1))).1, .int .i64 (zBo (smR l q (k + 1))).2]) w) := fun hqa hq hM => by
   have := c_Sum [smR l q k, (rw_ l k).free, (rw_ l k).held] (fun j => by
    have := hb q hq
    rcases j with _ | _ | _ | j
    ·exact ⟨by show _ ≤ smR l q k; omega, by show smR l q k ≤ _; omega⟩
    ·exact ⟨hf1, hf2⟩
    ·exact ⟨hd1, hd2⟩
    ·simp) (by show 3 ≤ 1048576; omega) _ hM (Ints3 (List.Mem.head _))
   have e : zCQ [smR l q k, (rw_ l k).free, (rw_ l k).held] [smR l q k, (rw_ l k).free, (rw_ l k).held].length = smR l q (k + 1) := by
    rw [zEZ, if_pos hqa]; simp [zCQ]; omega
   rw [e] at this
   exact this
  repeat' (first | refine y1 sg ?_ | refine y3 ?_ | refine y5 sg ?_ | refine y7 sg H ?_ | (refine y10 sg H ?_; intro b w H) | (refine y11 sg H ?_; intro w H) | (refine y40 sg (hs) ?_ ?_ ?_; (omega); (omega)) | (refine y42 sg (hs) ((H.memF hF)) ?_ ?_; (omega)) | (refine' y30 ent274 ?_ ?_; rotate_left; exact c_pmay (rw_ l k).acct (rw_ l k).asset _; intro w hcl; replace H := H.ext hcl; clear hcl) | (refine' y30 ent275 ?_ ?_; rotate_left; exact c_pcmp (zGy l k) (zGz l k) (rw_ l k).acct (rw_ l k).asset _; intro w hcl; replace H := H.ext hcl; clear hcl) | (refine' y30 ent276 ?_ ?_; rotate_left; exact zPM (rw_ l k).acct (rw_ l k).asset (rw_ l k).free (rw_ l k).held _ hf1 hf2 hd1 hd2; intro w hcl; replace H := H.ext hcl; clear hcl) | refine y13 ?_ | refine y14 ?_ | (refine y17 ?_ ?_; all_goals intro h) | (with_reducible first | apply zB | apply zD | apply zC | apply zE | apply zF | apply zG | apply zO | apply zW) | refine zA ?_ | refine y21 ?_ | refine y22 ?_ | (refine y23 ?_ ?_; all_goals intro h) | fail)
  all_goals simp only [Bool.not_eq_true', Bool.not_eq_false', decide_eq_true_eq, decide_eq_false_iff_not, beq_iff_eq, beq_eq_false_iff_ne, bne_iff_ne, ne_eq, bne_eq_false_iff_eq] at *
  all_goals try exact zQ rfl H.cl (congrArg Value.bool (zEa fun q => by
   obtain ⟨g, f2, f3, f4, f5⟩ := hfacts q
   first
    | omega
    | (cases f3.symm.trans ‹zBW _ _ = false›)
    | (obtain ⟨g1, g2, g3, g4⟩ := g; omega)))
  all_goals try (exfalso; omega)
  all_goals
   have hthere := hgi.1 ‹zBW (rw_ l k).acct (rw_ l k).asset = true›
   have hG : zDU (rw_ l k) := zPP ‹_› ‹_› (by omega) (fun h0 => by omega)
   have hL := (hcmp hG).1 (by omega)
   have hz0 : (rw_ l k).acct = 0 → (rw_ l k).free ≤ 0 := fun h0 => by omega
   have hqa : (rw_ l k).asset = (q : Int) := by omega
   have hq17 : q < 17 := by omega
   clear hfacts hcmp hgi
   have hS : ¬ (zBo (smR l q (k + 1))).2 = 0 → zBU l = true → False := fun h0 hr => by
    have := zPO hr hq17 (k := k + 1) (by omega)
    unfold zBo at h0
    rw [if_neg (by omega)] at h0
    exact h0 rfl
   have hT : (zBo (smR l q (k + 1))).2 = 0 → (zBo (smR l q (k + 1))).1 = smR l q (k + 1) ∧ -4611686018427387904 ≤ smR l q (k + 1) ∧ smR l q (k + 1) ≤ 4611686018427387904 := fun h0 => by
    unfold zBo at h0 ⊢
    split at h0
    ·exact absurd h0 (by decide)
    ·rename_i hn
     rw [if_neg hn]
     exact ⟨rfl, by omega, by omega⟩
   repeat' (first | refine y1 sg ?_ | refine y2 sg ?_ | refine y3 ?_ | refine y4 ?_ | refine y8 sg H ?_ | refine y12 ?_ | (refine CW.regionR mixed ?_; intro w hcl; replace H := H.ext hcl; clear hcl; (with_reducible apply RW.quiet 8); exact rfl; decide +kernel; simp only [List.append_eq, List.cons_append, List.nil_append, List.take_succ_cons, List.take_zero, List.drop_zero]) | ((with_reducible apply RW.quiet (k := 10) 15); exact rfl; decide +kernel; simp only [List.append_eq, List.cons_append, List.nil_append, List.take_succ_cons, List.take_zero, List.drop_succ_cons, List.drop_zero]) | (refine zo rfl rfl (Yq.ixP sg (n := 17) hq (by omega) (by omega) rfl rfl rfl rfl rfl rfl) ?_) | (refine zo rfl rfl (Yq.loadA sg (f := fun j => smR l (j : Nat) k) H.mem (by repeat (first | exact List.Mem.head _ | apply List.Mem.tail)) hq17 rfl rfl rfl rfl) ?_) | (refine z14 sg H ?_; intro b w H) | (refine' y30 zM0 ?_ ?_; rotate_left; exact sum hqa hq17 H.mem; intro w hcl; replace H := H.ext hcl; clear hcl) | (with_reducible first | apply zB | apply zD | apply zC) | (with_reducible apply zV; intro w hcl; replace H := H.ext hcl; clear hcl) | refine y19 ?_ | refine zA ?_ | fail)
   refine zM rfl (fun h => ?_) (fun h => ?_)
   ·repeat' (first | refine y1 sg ?_ | (with_reducible first | apply zB | apply zD | apply zC | apply zF | apply zO | apply zW) | refine zA ?_ | fail)
    exact zQ rfl H.cl (congrArg Value.bool (zEa (hS (by simpa using h))))
   ·obtain ⟨t1, t2, t3⟩ := hT (by simpa using h)
    rw [t1]
    repeat' (first | refine y1 sg ?_ | refine y3 ?_ | refine y7 sg H ?_ | (refine zY rfl rfl (Yq.ixP sg (n := 17) hq (by omega) (by omega) rfl rfl rfl rfl rfl rfl) ?_) | (refine OX.storeA sg (m := 17) (f := fun j => smR l (j : Nat) k) H hq17 (by repeat (first | exact Up.here | apply Up.there)) ?_; intro w H) | (with_reducible first | apply zB | apply zD | apply zG) | refine zA ?_ | fail)
    have ea : zAN .i64 17 (zEB (fun j => smR l (j : Nat) k) q (smR l q (k + 1))) = zAN .i64 17 (fun j => smR l (j : Nat) (k + 1)) := List.map_congr_left fun j hj => by
     show Value.int _ (if j = q then _ else _) = _
     by_cases hj2 : j = q
     ·subst hj2; rw [if_pos rfl]
     ·rw [if_neg hj2]
      show Value.int .i64 (smR l (j : Nat) k) = Value.int .i64 (smR l (j : Nat) (k + 1))
      rw [zEZ, if_neg (by omega)]
    rw [ea] at H
    have el : plc2 (zGy l (k + 1)) (zGz l (k + 1)) = [.int .i64 (rw_ l k).acct, .int .i64 (rw_ l k).asset] := rfl
    refine zJ (k + 1) rfl ⟨zT (by omega), trivial⟩ ⟨hlt, hP.succ hG hL, fun j hj => ?_, fun j hj => ?_, ?_⟩ (by omega)
    ·rcases (show j < k ∨ j = k by omega) with g | rfl
     ·exact hz j g
     ·exact hz0
    ·rw [zEZ]
     split
     ·rename_i he
      obtain rfl : j = q := by omega
      rw [zEZ, if_pos he] at t2 t3
      exact ⟨t2, t3⟩
     ·exact hb j hj
    ·rw [el]
     exact H.sub (List.Sublist.cons _ (List.Sublist.cons _ (List.Sublist.cons _ (List.Sublist.refl _))))
 ·obtain rfl : k = l.length := by have := of_decide_eq_false h; omega
  clear h
  repeat' (first | refine y1 sg ?_ | refine y3 ?_ | refine y7 sg H ?_ | (refine zY rfl rfl (Yq.build0 sg rfl rfl rfl rfl) ?_) | (refine zY rfl rfl (Yq.eqlA sg (n := 17) (f := fun j => smR l (j : Nat) l.length) (g := fun _ => 0) eg294 rfl rfl rfl rfl rfl rfl rfl rfl) ?_) | (with_reducible first | apply zB | apply zD | apply zC | apply zF | apply zL | apply zS) | refine zA ?_ | refine y24 ?_ | fail)
  refine zQ rfl H.cl (congrArg Value.bool ?_)
  unfold zBU
  rw [(List.all_eq_true.2 fun j hj => zGw.2 (hP j (List.mem_range.1 hj)) : (List.range l.length).all (fun k => zKz l k) = true), Bool.true_and]
end Go.Proofs.YtggolnppckpdlaaGreat
