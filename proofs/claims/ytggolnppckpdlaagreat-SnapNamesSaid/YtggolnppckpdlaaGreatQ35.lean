/- Texts of ours, joined: the steps of the proof, or the claim's theorem. -/
import Derived.Test.YtggolnppckpdlaaGreatQ13
import Derived.Test.YtggolnppckpdlaaGreatQ25
import Derived.Test.YtggolnppckpdlaaGreatQ33
import Derived.Test.YtggolnppckpdlaaGreatQ34
set_option linter.unusedSimpArgs false
set_option linter.unusedVariables false
namespace Go.Proofs.YtggolnppckpdlaaGreat
open Go Go.Sk Go.RowKit
attribute [local irreducible] Go.Calls
def KI : KeyT Tryz.prog 3 Int where
  v := .int .i64
  eq x y w := by
    show (Op.equalIn 10000 3 (.int .i64 x) (.int .i64 y)).run Tryz.prog w = _
    exact eqV_ok sg (t := 3) rfl (by rfl) (by rfl) rfl 9999 w
  chk b x w := by
    show (Instr.checkKey b (9999 + 1) 3 _).run Tryz.prog w = _
    rw [Instr.checkKey]
    simp only [Sem.run_bind, run_underlying (show Tryz.prog.underlying 3 = some (.int .i64) from sg.und (t := 3) rfl), Result.andThen_ok]
    rfl
  same x := by
    show Instr.sameBits (9999 + 1) _ _ = true
    simp [Instr.sameBits]
  d := _
  und := sg.und (t := 3) rfl
  now x y := .inr rfl
theorem c_sbatch (n : Int) (w : World) : Calls Tryz.prog 182 [.int .i64 n].toArray w (Ret (.bool (rangeF n 0 1048575)) w) := by
  refine enter [.tmp 2] Tryz.func182 rfl Tryz.ntmps182 rfl rfl ?_
  have H := St.start w
  repeat' (first | refine y1 sg ?_ | refine y5 sg ?_ | refine y13 ?_ | refine y14 ?_ | (refine y17 ?_ ?_; all_goals intro h) | with_reducible apply OW.nil | with_reducible apply thn_n | with_reducible apply CW.seq | refine CW.region ?_ | with_reducible apply CW.ret | fail)
  all_goals simp only [decide_eq_true_eq, decide_eq_false_iff_not, ge_iff_le] at *
  all_goals exact ret1 rfl H.cl (congrArg Value.bool (by
    rw [Bool.eq_iff_iff, rangeF_iff]; first | (rw [decide_eq_true_eq]; omega) | (constructor; (intro hh; first | omega | cases hh); (intro hh; omega))))
theorem c_sfits (n : Int) (w : World) : Calls Tryz.prog 185 [.int .i64 n].toArray w (Ret (.bool (rangeF n 0 1125899906842624)) w) := by
  refine enter [.tmp 2] Tryz.func185 rfl Tryz.ntmps185 rfl rfl ?_
  have H := St.start w
  repeat' (first | refine y1 sg ?_ | refine y5 sg ?_ | refine y13 ?_ | refine y14 ?_ | (refine y17 ?_ ?_; all_goals intro h) | with_reducible apply OW.nil | with_reducible apply thn_n | with_reducible apply CW.seq | refine CW.region ?_ | with_reducible apply CW.ret | fail)
  all_goals simp only [decide_eq_true_eq, decide_eq_false_iff_not, ge_iff_le] at *
  all_goals exact ret1 rfl H.cl (congrArg Value.bool (by unfold rangeF; simp only [*, decide_true, decide_false, Bool.true_and, Bool.and_true, Bool.false_and, Bool.and_false]))
theorem c_skinds (w0 : World) : Calls Tryz.prog 184 ([] : List Value).toArray w0 (RetF (fun M v => ∃ b, M = [cb b [.int .u8 6, .int .u8 7, .int .u8 13, .int .u8 18, .int .u8 21] 5] ∧ v = .slice (some ⟨b, 0, none⟩) 5 5) w0) := by
  refine enter [.tmp 0] Tryz.func184 rfl Tryz.ntmps184 rfl rfl ?_
  have H := St.start w0
  repeat' (first | refine y1 sg ?_ | refine y3 ?_ | ((with_reducible apply OX.buildS sg H); exact rfl; exact rfl; exact rfl; exact rfl; exact rfl; exact rfl; exact rfl; exact rfl; exact rfl; exact rfl; intro b w H _) | with_reducible apply OW.nil | with_reducible apply thn_n | with_reducible apply CW.seq | refine CW.region ?_ | with_reducible apply CW.ret | fail)
  exact ret1F rfl H ⟨_, rfl, rfl⟩
def kindsL : List Nat := [6, 7, 13, 18, 21]
def kindOk (q : Int) : Bool := decide (idx (fun j => q == (kindsL.getD j 0 : Nat)) 5 ≥ 0)
theorem c_Idx8 {F : Frag} {b : Nat} {T : TypeId} {fr : Nat × Nat} (q : Int) (w0 : World) (hF : Mem w0 F) (hm : (b, Obj.cells [Value.int .u8 6, .int .u8 7, .int .u8 13, .int .u8 18, .int .u8 21].toArray T fr) ∈ F) :
    Calls Tryz.prog 222 [.slice (some ⟨b, 0, none⟩) 5 5, .int .u8 q].toArray w0 (Ret (.int .i64 (idx (fun j => q == (kindsL.getD j 0 : Nat)) 5)) w0) := by
  have hs : SlB F 1 (some ⟨b, 0, none⟩) 5 b 0 [Value.int .u8 6, .int .u8 7, .int .u8 13, .int .u8 18, .int .u8 21] T fr (fun j => [.int .u8 (kindsL.getD j 0 : Nat)]) := fun _ => ⟨rfl, hm, fun j hj => by
    match j, hj with
    | 0, _ => exact ⟨by decide, rfl⟩
    | 1, _ => exact ⟨by decide, rfl⟩
    | 2, _ => exact ⟨by decide, rfl⟩
    | 3, _ => exact ⟨by decide, rfl⟩
    | 4, _ => exact ⟨by decide, rfl⟩⟩
  refine enter [.tmp 4] Tryz.func222 rfl Tryz.ntmps222 rfl rfl ?_
  have H := St.start w0
  repeat' (first | refine y1 sg ?_ | with_reducible apply OW.nil | with_reducible apply thn_n | with_reducible apply CW.seq | refine CW.region ?_ | with_reducible apply CW.block | fail)
  refine CW.loopI [(4, 5), (8, 18)] (fun k : Nat => [(8, .int .i64 (k : Int))]) (fun k w => k ≤ 5 ∧ (∀ j, j < k → (q == (kindsL.getD j 0 : Nat)) = false) ∧ St w0 [] w) (fun k => 5 - k) 0 ⟨rfl, trivial⟩ ⟨Nat.zero_le _, fun j hj => absurd hj (Nat.not_lt_zero _), H⟩ ?_
  clear H
  rintro k gh w ⟨hk, hn, H⟩
  repeat' (first | refine y1 sg ?_ | with_reducible apply OW.nil | with_reducible apply thn_n | with_reducible apply CW.seq | refine CW.region ?_ | fail)
  refine CW.cond rfl (fun h => ?_) (fun h => ?_)
  · have hlt : k < 5 := by have := of_decide_eq_true h; omega
    clear h
    repeat' (first | refine y1 sg ?_ | refine y3 ?_ | (refine OX.val rfl rfl (Yq.ixB sg hs rfl rfl rfl rfl rfl rfl rfl (Int.toNat_natCast _) (by omega) (by omega)) ?_) | (refine y46 sg (hs) ((H.memF hF)) ?_ ?_; (omega)) | with_reducible apply OW.nil | with_reducible apply thn_n | with_reducible apply CW.seq | refine CW.region ?_ | with_reducible apply CW.block | with_reducible apply CW.skip | fail)
    refine CW.cond rfl (fun h2 => ?_) (fun h2 => ?_)
    · repeat' (first | refine y1 sg ?_ | with_reducible apply OW.nil | with_reducible apply thn_n | with_reducible apply CW.seq | refine CW.region ?_ | with_reducible apply CW.ret | with_reducible apply thn_r | with_reducible apply blk_r | fail)
      exact ret1 rfl H.cl (congrArg (Value.int .i64) (by rw [idx_hit (p := fun j => q == (kindsL.getD j 0 : Nat)) hlt hn h2]))
    · repeat' (first | refine y1 sg ?_ | with_reducible apply OW.nil | with_reducible apply thn_n | refine CW.region ?_ | with_reducible apply CW.skip | fail)
      refine Again.mk (k + 1) rfl ⟨vsucc (by omega), trivial⟩ ⟨hlt, fun j hj => ?_, H⟩ (by omega)
      rcases (show j < k ∨ j = k by omega) with g | rfl
      · exact hn j g
      · exact h2
  · obtain rfl : k = 5 := by have := of_decide_eq_false h; omega
    repeat' (first | refine y1 sg ?_ | with_reducible apply OW.nil | with_reducible apply thn_n | with_reducible apply CW.seq | refine CW.region ?_ | with_reducible apply CW.ret | with_reducible apply CW.exit | with_reducible apply thn_e | refine y24 ?_ | fail)
    exact ret1 rfl H.cl (congrArg (Value.int .i64) (by rw [idx_miss (p := fun j => q == (kindsL.getD j 0 : Nat)) hn]))
theorem c_Cont8 {F : Frag} {b : Nat} {T : TypeId} {fr : Nat × Nat} (q : Int) (w0 : World) (hF : Mem w0 F) (hm : (b, Obj.cells [Value.int .u8 6, .int .u8 7, .int .u8 13, .int .u8 18, .int .u8 21].toArray T fr) ∈ F) :
    Calls Tryz.prog 183 [.slice (some ⟨b, 0, none⟩) 5 5, .int .u8 q].toArray w0 (Ret (.bool (kindOk q)) w0) := by
  refine enter [.tmp 4] Tryz.func183 rfl Tryz.ntmps183 rfl rfl ?_
  have H := St.start w0
  repeat' (first | refine y1 sg ?_ | refine y3 ?_ | (refine' y30 ent222 ?_ ?_; rotate_left; exact c_Idx8 q _ (H.memF hF) hm; intro w hcl; replace H := H.ext hcl; clear hcl) | with_reducible apply OW.nil | with_reducible apply thn_n | with_reducible apply CW.seq | refine CW.region ?_ | with_reducible apply CW.ret | fail)
  all_goals exact ret1 rfl H.cl rfl
def lastTo (l : List Ln) : Nat → Int → Int
  | 0, _ => 0
  | k + 1, a => if a = (ln_ l k).acct then (ln_ l k).bal else lastTo l k a
def seqTo (l : List Ln) : Nat → Int
  | 0 => 0
  | k + 1 => (ln_ l k).seq
def lnOk (l : List Ln) (k : Nat) : Bool :=
  rangeF (ln_ l k).acct 1 64 && (rangeF (ln_ l k).seq 0 1048575 && (decide (seqTo l k ≤ (ln_ l k).seq) && (kindOk (ln_ l k).kind && (!((ln_ l k).delta == 0) && (rangeF (ln_ l k).bal 0 1125899906842624 && ((addF (lastTo l k (ln_ l k).acct) (ln_ l k).delta).2 == 0 && (addF (lastTo l k (ln_ l k).acct) (ln_ l k).delta).1 == (ln_ l k).bal))))))
def linsF (l : List Ln) : Bool := (List.range l.length).all (lnOk l)
def Ln.wf (x : Ln) : Prop := (-9223372036854775808 ≤ x.delta ∧ x.delta ≤ 9223372036854775807) ∧ (-9223372036854775808 ≤ x.bal ∧ x.bal ≤ 9223372036854775807)
theorem lastTo_bd (l : List Ln) (hw : ∀ k, k < l.length → (ln_ l k).wf) : ∀ k, k ≤ l.length → ∀ a, -9223372036854775808 ≤ lastTo l k a ∧ lastTo l k a ≤ 9223372036854775807
  | 0, _, a => by unfold lastTo; omega
  | k + 1, hk, a => by
    unfold lastTo
    split
    · exact (hw k (by omega)).2
    · exact lastTo_bd l hw k (by omega) a
theorem lnOk_iff (l : List Ln) (k : Nat) {sm er : Int} (h : addF (lastTo l k (ln_ l k).acct) (ln_ l k).delta = (sm, er)) : lnOk l k = true ↔
    (1 ≤ (ln_ l k).acct ∧ (ln_ l k).acct ≤ 64) ∧ rangeF (ln_ l k).seq 0 1048575 = true ∧ seqTo l k ≤ (ln_ l k).seq ∧ kindOk (ln_ l k).kind = true ∧ (ln_ l k).delta ≠ 0 ∧ rangeF (ln_ l k).bal 0 1125899906842624 = true ∧ er = 0 ∧ sm = (ln_ l k).bal := by
  unfold lnOk
  rw [h]
  simp only [Bool.and_eq_true, rangeF_iff, decide_eq_true_eq, Bool.not_eq_true', beq_eq_false_iff_ne, beq_iff_eq, ne_eq]
set_option maxHeartbeats 16000000 in
theorem c_lMay {F : Frag} {a : Option Addr} {cap : Nat} (l : List Ln) (hw : ∀ k, k < l.length → (ln_ l k).wf) (w0 : World) (hF : Mem w0 F) (hs : SlA F 5 a l.length cap (lnl l)) :
    Calls Tryz.prog 86 [.slice a l.length cap].toArray w0 (Ret (.bool (linsF l)) w0) := by
  obtain ⟨hnc, hcb, b0, off, cs, T, fr, hs⟩ := hs
  refine enter [.tmp 2] Tryz.func86 rfl Tryz.ntmps86 rfl rfl ?_
  have H := St.start w0
  have hz : ∀ w : World, (zeroValue 2).run Tryz.prog w = .ok (Value.int .i64 0) w := fun w => Tryz.zeroValue2 w
  repeat' (first | refine y1 sg ?_ | refine y3 ?_ | (refine m1 H ?_; intro bm w H) | with_reducible apply OW.nil | with_reducible apply thn_n | with_reducible apply CW.seq | refine CW.region ?_ | with_reducible apply CW.block | fail)
  refine CW.loopI [(2, 2), (4, 4), (6, 8), (12, 80)] (fun x : Nat × List (ME Int Int) × Nat => [(12, .int .i64 (x.1 : Int)), (4, .int .i64 (seqTo l x.1))]) (fun x w => x.1 ≤ l.length ∧ (∀ j, j < x.1 → lnOk l j = true) ∧ MI x.2.1 x.2.2 ∧ (∀ a, (atM x.2.1 a).getD 0 = lastTo l x.1 a) ∧ St w0 [(bm, mo KI (Value.int .i64) x.2.1 x.2.2)] w) (fun x => l.length - x.1) (0, [], 0) ⟨rfl, rfl, trivial⟩ ⟨Nat.zero_le _, fun j hj => absurd hj (Nat.not_lt_zero _), MI.nil, fun _ => rfl, H⟩ ?_
  clear H
  rintro ⟨k, es, clock⟩ gh w ⟨hk, hP, hMI, hat, H⟩
  simp only at hk hP hMI hat H ⊢
  repeat' (first | refine y1 sg ?_ | with_reducible apply OW.nil | with_reducible apply thn_n | with_reducible apply CW.seq | refine CW.region ?_ | fail)
  refine CW.cond rfl (fun h => ?_) (fun h => ?_)
  · have hlt : k < l.length := by have := of_decide_eq_true h; omega
    clear h
    obtain ⟨sm, er, had⟩ : ∃ sm er, addF (lastTo l k (ln_ l k).acct) (ln_ l k).delta = (sm, er) := ⟨_, _, rfl⟩
    have hm := lnOk_iff l k had
    have hbd := lastTo_bd l hw k hk (ln_ l k).acct
    have hwk := hw k hlt
    have hAdd : ∀ w, Calls Tryz.prog 181 [.int .i64 ((atM es (ln_ l k).acct).getD 0), .int .i64 (ln_ l k).delta].toArray w (Ret (.tuple #[.int .i64 sm, .int .i64 er]) w) := fun w => by
      have := c_Add (lastTo l k (ln_ l k).acct) (ln_ l k).delta w hbd.1 hbd.2 hwk.1.1 hwk.1.2
      rw [had] at this
      rw [hat]; exact this
    have hfacts : linsF l = true → lnOk l k = true := fun q => (List.all_eq_true.1 q) k (List.mem_range.2 hlt)
    have hat2 : ∀ a, (atM (putM es clock (ln_ l k).acct (ln_ l k).bal) a).getD 0 = lastTo l (k + 1) a := fun a => by
      rw [putM_at]
      show _ = if a = (ln_ l k).acct then (ln_ l k).bal else lastTo l k a
      split
      · rfl
      · exact hat a
    have hka : KeyT.v KI (ln_ l k).acct = .int .i64 (ln_ l k).acct := rfl
    repeat' (first | refine y1 sg ?_ | refine y3 ?_ | refine y5 sg ?_ | refine y7 sg H ?_ | (refine y10 sg H ?_; intro b w H) | (refine y11 sg H ?_; intro w H) | (refine y40 sg (hs) ?_ ?_ ?_; (omega); (omega)) | (refine y42 sg (hs) ((H.memF hF)) ?_ ?_; (omega)) | (refine OX.val rfl rfl (Yq.lookM sg KI (Value.int .i64) es (ln_ l k).acct 0 hz H.mem (by repeat (first | exact List.Mem.head _ | refine List.Mem.tail _ ?_)) rfl rfl rfl rfl rfl) ?_) | (refine' y30 ent181 ?_ ?_; rotate_left; exact hAdd _; intro w hcl; replace H := H.ext hcl; clear hcl) | (refine' y30 ent182 ?_ ?_; rotate_left; exact c_sbatch _ _; intro w hcl; replace H := H.ext hcl; clear hcl) | (refine' y30 ent185 ?_ ?_; rotate_left; exact c_sfits _ _; intro w hcl; replace H := H.ext hcl; clear hcl) | (refine' y32 ent184 ?_ ?_; rotate_left; exact c_skinds _; intro v M w hR hS; replace H := H.addR hS; clear hS; (try simp only [List.cons_append, List.nil_append] at H); obtain ⟨bk, rfl, rfl⟩ := hR) | (refine' y30 ent183 ?_ ?_; rotate_left; exact c_Cont8 (ln_ l k).kind _ H.mem (by repeat (first | exact List.Mem.head _ | exact List.mem_append_right _ (List.Mem.head _) | refine List.Mem.tail _ ?_)); intro w hcl; replace H := H.ext hcl; clear hcl) | (refine CW.regionA mixed 17 ?_ ?_; exact rfl; intro w hcl; replace H := H.ext hcl; clear hcl) | ((with_reducible apply RA.nil); decide +kernel) | ((with_reducible apply RA.take 1); decide +kernel; exact rfl; exact rfl; exact rfl; exact rfl; (first | exact (fun w => pvn_ok sg rfl w)); exact rfl) | ((with_reducible apply RA.c1 0); exact rfl; decide +kernel; exact rfl) | ((with_reducible apply RA.c1 2); exact rfl; decide +kernel; exact rfl) | ((with_reducible apply RA.c1 3); exact rfl; decide +kernel; exact rfl) | ((with_reducible apply RA.c1 4); exact rfl; decide +kernel; exact rfl) | ((with_reducible apply RA.c1 5); exact rfl; decide +kernel; exact rfl) | ((with_reducible apply RA.c1 6); exact rfl; decide +kernel; exact rfl) | ((with_reducible apply RA.c1 7); exact rfl; decide +kernel; exact rfl) | ((with_reducible apply RA.c1 8); exact rfl; decide +kernel; exact rfl) | ((with_reducible apply RA.c1 9); exact rfl; decide +kernel; exact rfl) | ((with_reducible apply RA.c1 10); exact rfl; decide +kernel; exact rfl) | ((with_reducible apply RA.c1 11); exact rfl; decide +kernel; exact rfl) | ((with_reducible apply RA.c1 12); exact rfl; decide +kernel; exact rfl) | ((with_reducible apply RA.c1 13); exact rfl; decide +kernel; exact rfl) | ((with_reducible apply RA.c1 14); exact rfl; decide +kernel; exact rfl) | ((with_reducible apply RA.c1 15); exact rfl; decide +kernel; exact rfl) | ((with_reducible apply RA.c1 16); exact rfl; decide +kernel; exact rfl) | ((with_reducible apply RA.c2 0 2); exact rfl; decide +kernel; exact rfl; exact rfl) | (refine CW.regionA mixed 9 ?_ ?_; exact rfl; intro w hcl; replace H := H.ext hcl; clear hcl) | ((with_reducible apply RA.take 0); decide +kernel; exact rfl; exact rfl; exact rfl; exact rfl; (first | exact (fun w => pvn_ok sg rfl w)); exact rfl) | ((with_reducible apply RA.take 3); decide +kernel; exact rfl; exact rfl; exact rfl; exact rfl; (first | exact (fun w => pvn_ok sg rfl w)); exact rfl) | ((with_reducible apply RA.take 5); decide +kernel; exact rfl; exact rfl; exact rfl; exact rfl; (first | exact (fun w => pvn_ok sg rfl w)); exact rfl) | ((with_reducible apply RA.c2 2 4); exact rfl; decide +kernel; exact rfl; exact rfl) | ((with_reducible apply RA.c2 2 6); exact rfl; decide +kernel; exact rfl; exact rfl) | ((with_reducible apply RA.c2 4 6); exact rfl; decide +kernel; exact rfl; exact rfl) | ((with_reducible apply RA.c2 6 7); exact rfl; decide +kernel; exact rfl; exact rfl) | ((with_reducible apply RA.c3 2 4 6); exact rfl; decide +kernel; exact rfl; exact rfl; exact rfl) | (refine m3 sg KI (Value.int .i64) es (ln_ l k).acct (ln_ l k).bal H (Up.there Up.here) rfl rfl ?_; intro w H) | refine y13 ?_ | refine y14 ?_ | (refine y17 ?_ ?_; all_goals intro h) | with_reducible apply OW.nil | with_reducible apply thn_n | with_reducible apply CW.seq | refine CW.region ?_ | with_reducible apply CW.block | with_reducible apply CW.ret | with_reducible apply CW.exit | with_reducible apply CW.skip | with_reducible apply thn_r | with_reducible apply thn_e | with_reducible apply blk_n | with_reducible apply blk_r | refine y24 ?_ | refine y25 ?_ | refine y21 ?_ | (refine y23 ?_ ?_; all_goals intro h) | fail)
    all_goals simp only [Bool.not_eq_true', Bool.not_eq_false', decide_eq_true_eq, decide_eq_false_iff_not, beq_iff_eq, beq_eq_false_iff_ne, bne_iff_ne, bne_eq_false_iff_eq, ne_eq, ge_iff_le, gt_iff_lt] at *
    all_goals first
      | exact ret1 rfl H.cl (congrArg Value.bool (noB fun q => by
          obtain ⟨⟨g1, g2⟩, g3, g4, g5, g6, g7, g8, g9⟩ := hm.1 (hfacts q)
          first | omega | (cases g3.symm.trans ‹rangeF (ln_ l k).seq _ _ = false›) | (cases g5.symm.trans ‹kindOk _ = false›) | (cases g7.symm.trans ‹rangeF (ln_ l k).bal _ _ = false›)))
      | exact Again.mk (k + 1, putM es clock (ln_ l k).acct (ln_ l k).bal, putC es clock (ln_ l k).acct) rfl ⟨vsucc (by omega), rfl, trivial⟩ ⟨hlt, fun j hj => by
          rcases (show j < k ∨ j = k by have : j < k + 1 := hj; omega) with g | rfl
          · exact hP j g
          · exact hm.2 ⟨⟨by omega, by omega⟩, by assumption, by omega, by assumption, by omega, by assumption, by omega, by omega⟩, putM_inv hMI _ _, hat2, H.sub (by repeat (first | exact List.Sublist.refl _ | exact List.nil_sublist _ | apply List.Sublist.cons_cons | apply List.Sublist.cons))⟩ (by simp only; omega)
  · obtain rfl : k = l.length := by have := of_decide_eq_false h; omega
    repeat' (first | refine y1 sg ?_ | with_reducible apply OW.nil | with_reducible apply thn_n | with_reducible apply CW.seq | refine CW.region ?_ | with_reducible apply CW.ret | with_reducible apply CW.exit | with_reducible apply thn_e | refine y24 ?_ | fail)
    exact ret1 rfl H.cl (congrArg Value.bool (List.all_eq_true.2 fun k hk => hP k (List.mem_range.1 hk)).symm)
def viewsF (v : Vws) : Bool := opnsF v.opn v.lots && (possF v.poss && linsF v.lins)
theorem c_vMay {F : Frag} (v : Vws) (p : VPt) (hw : ∀ k, k < v.lins.length → (ln_ v.lins k).wf) (w0 : World) (hF : Mem w0 F) (hs : VwM F v p) :
    Calls Tryz.prog 33 [.agg (v.cells p).toArray].toArray w0 (Ret (.bool (viewsF v)) w0) := by
  refine enter [.tmp 2] Tryz.func33 rfl Tryz.ntmps33 rfl rfl ?_
  have H := St.start w0
  repeat' (first | refine y1 sg ?_ | refine y3 ?_ | refine y5 sg ?_ | refine y7 sg H ?_ | (refine y9 H ?_; intro b w H) | (refine' y30 ent84 ?_ ?_; rotate_left; exact c_oMay v.opn v.lots _ (H.memF hF) hs.op hs.lt; intro w hcl; replace H := H.ext hcl; clear hcl) | (refine' y30 ent85 ?_ ?_; rotate_left; exact c_pMay v.poss _ (H.memF hF) hs.ps; intro w hcl; replace H := H.ext hcl; clear hcl) | (refine' y30 ent86 ?_ ?_; rotate_left; exact c_lMay v.lins hw _ (H.memF hF) hs.ln; intro w hcl; replace H := H.ext hcl; clear hcl) | refine y13 ?_ | refine y14 ?_ | (refine y17 ?_ ?_; all_goals intro h) | with_reducible apply OW.nil | with_reducible apply thn_n | with_reducible apply CW.seq | refine CW.region ?_ | with_reducible apply CW.ret | fail)
  all_goals exact ret1 rfl H.cl (congrArg Value.bool (by unfold viewsF; simp only [*, Bool.true_and, Bool.and_true, Bool.false_and, Bool.and_false]))
end Go.Proofs.YtggolnppckpdlaaGreat
