/- Texts of ours, joined: the steps of the proof, or the claim's theorem. -/
import Derived.Test.YtggolnppckpdlaaGreatR08
import Derived.Test.YtggolnppckpdlaaGreatR17
import Derived.Test.YtggolnppckpdlaaGreatR25
import Derived.Test.YtggolnppckpdlaaGreatR26
set_option linter.unusedSimpArgs false
set_option linter.unusedVariables false
namespace Go.Proofs.YtggolnppckpdlaaGreat
open Go Go.Sk Go.RowKit
attribute [local irreducible] Go.Calls
def KI : KeyT Tryz.prog 3 Int where
 v := .int .i64
 eq x y w := by
  show (Op.equalIn 10000 3 (.int .i64 x) (.int .i64 y)).run Tryz.prog w = _
  exact zND sg (t := 3) rfl (by rfl) (by rfl) rfl 9999 w
 chk b x w := by
  show (Instr.checkKey b (9999 + 1) 3 _).run Tryz.prog w = _
  rw [Instr.checkKey]
  simp only [Sem.run_bind, run_underlying (show Tryz.prog.underlying 3 = some (.int .i64) from sg.und (t := 3) rfl), Result.andThen_ok]
  rfl
 same x := by
  show Instr.sameBits (9999 + 1) _ _ = true
  simp [Instr.sameBits]
 d := _
 und := sg.und (t := 3) rfl
 now x y := .inr rfl
theorem zN9 (n : Int) (w : World) : Calls Tryz.prog 182 [.int .i64 n].toArray w (Ret (.bool (zX n 0 1048575)) w) := by
 refine enter [.tmp 2] Tryz.func182 rfl Tryz.ntmps182 rfl rfl ?_
 have H := zH w
 repeat' (first | refine y1 sg ?_ | refine y5 sg ?_ | refine y13 ?_ | refine y14 ?_ | (refine y17 ?_ ?_; all_goals intro h) | (with_reducible first | apply zB | apply zD | apply zC | apply zF) | refine zA ?_ | fail)
 all_goals simp only [decide_eq_true_eq, decide_eq_false_iff_not, ge_iff_le] at *
 all_goals exact zQ rfl H.cl (congrArg Value.bool (by
  rw [Bool.eq_iff_iff, zAC]; first | (rw [decide_eq_true_eq]; omega) | (constructor; (intro hh; first | omega | cases hh); (intro hh; omega))))
theorem zQB (n : Int) (w : World) : Calls Tryz.prog 185 [.int .i64 n].toArray w (Ret (.bool (zX n 0 1125899906842624)) w) := by
 refine enter [.tmp 2] Tryz.func185 rfl Tryz.ntmps185 rfl rfl ?_
 have H := zH w
 repeat' (first | refine y1 sg ?_ | refine y5 sg ?_ | refine y13 ?_ | refine y14 ?_ | (refine y17 ?_ ?_; all_goals intro h) | (with_reducible first | apply zB | apply zD | apply zC | apply zF) | refine zA ?_ | fail)
 all_goals simp only [decide_eq_true_eq, decide_eq_false_iff_not, ge_iff_le] at *
 all_goals exact zQ rfl H.cl (congrArg Value.bool (by unfold zX; simp only [*, decide_true, decide_false, Bool.true_and, Bool.and_true, Bool.false_and, Bool.and_false]))
theorem zOA (w0 : World) : Calls Tryz.prog 184 ([] : List Value).toArray w0 (zf (fun M v => ∃ b, M = [cb b [.int .u8 6, .int .u8 7, .int .u8 13, .int .u8 18, .int .u8 21] 5] ∧ v = .slice (some ⟨b, 0, none⟩) 5 5) w0) := by
 refine enter [.tmp 0] Tryz.func184 rfl Tryz.ntmps184 rfl rfl ?_
 have H := zH w0
 repeat' (first | refine y1 sg ?_ | refine y3 ?_ | (refine z14 sg H ?_; intro b w H) | (with_reducible first | apply zB | apply zD | apply zC | apply zF) | refine zA ?_ | fail)
 exact zDs rfl H ⟨_, rfl, rfl⟩
def zDH : List Nat := [6, 7, 13, 18, 21]
def zE3 (q : Int) : Bool := decide (idx (fun j => q == (zDH.getD j 0 : Nat)) 5 ≥ 0)
theorem c_Idx8 {F : zI} {b : Nat} {T : TypeId} {fr : Nat × Nat} (q : Int) (w0 : World) (hF : Mem w0 F) (hm : (b, Obj.cells [Value.int .u8 6, .int .u8 7, .int .u8 13, .int .u8 18, .int .u8 21].toArray T fr) ∈ F) :
  Calls Tryz.prog 222 [.slice (some ⟨b, 0, none⟩) 5 5, .int .u8 q].toArray w0 (Ret (.int .i64 (idx (fun j => q == (zDH.getD j 0 : Nat)) 5)) w0) := by
 have hs : SlB F 1 (some ⟨b, 0, none⟩) 5 b 0 [Value.int .u8 6, .int .u8 7, .int .u8 13, .int .u8 18, .int .u8 21] T fr (fun j => [.int .u8 (zDH.getD j 0 : Nat)]) := fun _ => ⟨rfl, hm, fun j hj => by
  match j, hj with
  | 0, _ => exact ⟨by decide, rfl⟩
  | 1, _ => exact ⟨by decide, rfl⟩
  | 2, _ => exact ⟨by decide, rfl⟩
  | 3, _ => exact ⟨by decide, rfl⟩
  | 4, _ => exact ⟨by decide, rfl⟩⟩
 refine enter [.tmp 4] Tryz.func222 rfl Tryz.ntmps222 rfl rfl ?_
 have H := zH w0
 repeat' (first | refine y1 sg ?_ | (with_reducible first | apply zB | apply zD | apply zC | apply zE) | refine zA ?_ | fail)
 refine zK [(4, 5), (8, 18)] (fun k : Nat => [(8, .int .i64 (k : Int))]) (fun k w => k ≤ 5 ∧ (∀ j, j < k → (q == (zDH.getD j 0 : Nat)) = false) ∧ St w0 [] w) (fun k => 5 - k) 0 ⟨rfl, trivial⟩ ⟨Nat.zero_le _, fun j hj => absurd hj (Nat.not_lt_zero _), H⟩ ?_
 clear H
 rintro k gh w ⟨hk, hn, H⟩
 repeat' (first | refine y1 sg ?_ | (with_reducible first | apply zB | apply zD | apply zC) | refine zA ?_ | fail)
 refine zM rfl (fun h => ?_) (fun h => ?_)
 ·have hlt : k < 5 := by have := of_decide_eq_true h; omega
  clear h
  repeat' (first | refine y1 sg ?_ | refine y3 ?_ | (refine zY rfl rfl (zAK sg hs rfl rfl rfl rfl rfl rfl rfl (Int.toNat_natCast _) (by omega) (by omega)) ?_) | (refine y46 sg (hs) ((H.memF hF)) ?_ ?_; (omega)) | (with_reducible first | apply zB | apply zD | apply zC | apply zE | apply zG) | refine zA ?_ | fail)
  refine zM rfl (fun h2 => ?_) (fun h2 => ?_)
  ·repeat' (first | refine y1 sg ?_ | (with_reducible first | apply zB | apply zD | apply zC | apply zF | apply zO | apply zW) | refine zA ?_ | fail)
   exact zQ rfl H.cl (congrArg (Value.int .i64) (by rw [zA5 (p := fun j => q == (zDH.getD j 0 : Nat)) hlt hn h2]))
  ·repeat' (first | refine y1 sg ?_ | (with_reducible first | apply zB | apply zD | apply zG) | refine zA ?_ | fail)
   refine zJ (k + 1) rfl ⟨zT (by omega), trivial⟩ ⟨hlt, fun j hj => ?_, H⟩ (by omega)
   rcases (show j < k ∨ j = k by omega) with g | rfl
   ·exact hn j g
   ·exact h2
 ·obtain rfl : k = 5 := by have := of_decide_eq_false h; omega
  repeat' (first | refine y1 sg ?_ | (with_reducible first | apply zB | apply zD | apply zC | apply zF | apply zL | apply zS) | refine zA ?_ | refine y24 ?_ | fail)
  exact zQ rfl H.cl (congrArg (Value.int .i64) (by rw [zAm (p := fun j => q == (zDH.getD j 0 : Nat)) hn]))
theorem zQC {F : zI} {b : Nat} {T : TypeId} {fr : Nat × Nat} (q : Int) (w0 : World) (hF : Mem w0 F) (hm : (b, Obj.cells [Value.int .u8 6, .int .u8 7, .int .u8 13, .int .u8 18, .int .u8 21].toArray T fr) ∈ F) :
  Calls Tryz.prog 183 [.slice (some ⟨b, 0, none⟩) 5 5, .int .u8 q].toArray w0 (Ret (.bool (zE3 q)) w0) := by
 refine enter [.tmp 4] Tryz.func183 rfl Tryz.ntmps183 rfl rfl ?_
 have H := zH w0
 repeat' (first | refine y1 sg ?_ | refine y3 ?_ | (refine' y30 ent222 ?_ ?_; rotate_left; exact c_Idx8 q _ (H.memF hF) hm; intro w hcl; replace H := H.ext hcl; clear hcl) | (with_reducible first | apply zB | apply zD | apply zC | apply zF) | refine zA ?_ | fail)
 all_goals exact zQ rfl H.cl rfl
def zAO (l : List Ln) : Nat → Int → Int
 | 0, _ => 0
 | k + 1, a => if a = (ln_ l k).acct then (ln_ l k).bal else zAO l k a
def zG8 (l : List Ln) : Nat → Int
 | 0 => 0
 | k + 1 => (ln_ l k).seq
def zHo (l : List Ln) (k : Nat) : Bool :=
 zX (ln_ l k).acct 1 64 && (zX (ln_ l k).seq 0 1048575 && (decide (zG8 l k ≤ (ln_ l k).seq) && (zE3 (ln_ l k).kind && (!((ln_ l k).delta == 0) && (zX (ln_ l k).bal 0 1125899906842624 && ((zGf (zAO l k (ln_ l k).acct) (ln_ l k).delta).2 == 0 && (zGf (zAO l k (ln_ l k).acct) (ln_ l k).delta).1 == (ln_ l k).bal))))))
def zEl (l : List Ln) : Bool := (List.range l.length).all (zHo l)
def Ln.wf (x : Ln) : Prop := (-9223372036854775808 ≤ x.delta ∧ x.delta ≤ 9223372036854775807) ∧ (-9223372036854775808 ≤ x.bal ∧ x.bal ≤ 9223372036854775807)
theorem zG9 (l : List Ln) (hw : ∀ k, k < l.length → (ln_ l k).wf) : ∀ k, k ≤ l.length → ∀ a, -9223372036854775808 ≤ zAO l k a ∧ zAO l k a ≤ 9223372036854775807
 | 0, _, a => by unfold zAO; omega
 | k + 1, hk, a => by
   unfold zAO
   split
   ·exact (hw k (by omega)).2
   ·exact zG9 l hw k (by omega) a
theorem zIo (l : List Ln) (k : Nat) {sm er : Int} (h : zGf (zAO l k (ln_ l k).acct) (ln_ l k).delta = (sm, er)) : zHo l k = true ↔
  (1 ≤ (ln_ l k).acct ∧ (ln_ l k).acct ≤ 64) ∧ zX (ln_ l k).seq 0 1048575 = true ∧ zG8 l k ≤ (ln_ l k).seq ∧ zE3 (ln_ l k).kind = true ∧ (ln_ l k).delta ≠ 0 ∧ zX (ln_ l k).bal 0 1125899906842624 = true ∧ er = 0 ∧ sm = (ln_ l k).bal := by
 unfold zHo
 rw [h]
 simp only [Bool.and_eq_true, zAC, decide_eq_true_eq, Bool.not_eq_true', beq_eq_false_iff_ne, beq_iff_eq, ne_eq]
set_option maxHeartbeats 16000000 in
theorem c_lMay {F : zI} {a : Option Addr} {cap : Nat} (l : List Ln) (hw : ∀ k, k < l.length → (ln_ l k).wf) (w0 : World) (hF : Mem w0 F) (hs : SlA F 5 a l.length cap (lnl l)) :
  Calls Tryz.prog 86 [.slice a l.length cap].toArray w0 (Ret (.bool (zEl l)) w0) := by
 obtain ⟨hnc, hcb, b0, off, cs, T, fr, hs⟩ := hs
 refine enter [.tmp 2] Tryz.func86 rfl Tryz.ntmps86 rfl rfl ?_
 have H := zH w0
 have hz : ∀ w : World, (zeroValue 2).run Tryz.prog w = .ok (Value.int .i64 0) w := fun w => Tryz.zeroValue2 w
 repeat' (first | refine y1 sg ?_ | refine y3 ?_ | (refine m1 H ?_; intro bm w H) | (with_reducible first | apply zB | apply zD | apply zC | apply zE) | refine zA ?_ | fail)
 refine zK [(2, 2), (4, 4), (6, 8), (12, 80)] (fun x : Nat × List (ME Int Int) × Nat => [(12, .int .i64 (x.1 : Int)), (4, .int .i64 (zG8 l x.1))]) (fun x w => x.1 ≤ l.length ∧ (∀ j, j < x.1 → zHo l j = true) ∧ MI x.2.1 x.2.2 ∧ (∀ a, (atM x.2.1 a).getD 0 = zAO l x.1 a) ∧ St w0 [(bm, mo KI (Value.int .i64) x.2.1 x.2.2)] w) (fun x => l.length - x.1) (0, [], 0) ⟨rfl, rfl, trivial⟩ ⟨Nat.zero_le _, fun j hj => absurd hj (Nat.not_lt_zero _), MI.nil, fun _ => rfl, H⟩ ?_
 clear H
 rintro ⟨k, es, clock⟩ gh w ⟨hk, hP, hMI, hat, H⟩
 simp only at hk hP hMI hat H ⊢
 repeat' (first | refine y1 sg ?_ | (with_reducible first | apply zB | apply zD | apply zC) | refine zA ?_ | fail)
 refine zM rfl (fun h => ?_) (fun h => ?_)
 ·have hlt : k < l.length := by have := of_decide_eq_true h; omega
  clear h
  obtain ⟨sm, er, had⟩ : ∃ sm er, zGf (zAO l k (ln_ l k).acct) (ln_ l k).delta = (sm, er) := ⟨_, _, rfl⟩
  have hm := zIo l k had
  have hbd := zG9 l hw k hk (ln_ l k).acct
  have hwk := hw k hlt
  have hAdd : ∀ w, Calls Tryz.prog 181 [.int .i64 ((atM es (ln_ l k).acct).getD 0), .int .i64 (ln_ l k).delta].toArray w (Ret (.tuple #[.int .i64 sm, .int .i64 er]) w) := fun w => by
   have := c_Add (zAO l k (ln_ l k).acct) (ln_ l k).delta w hbd.1 hbd.2 hwk.1.1 hwk.1.2
   rw [had] at this
   rw [hat]; exact this
  have hfacts : zEl l = true → zHo l k = true := fun q => (List.all_eq_true.1 q) k (List.mem_range.2 hlt)
  have hat2 : ∀ a, (atM (zGi es clock (ln_ l k).acct (ln_ l k).bal) a).getD 0 = zAO l (k + 1) a := fun a => by
   rw [zPn]
   show _ = if a = (ln_ l k).acct then (ln_ l k).bal else zAO l k a
   split
   ·rfl
   ·exact hat a
  have hka : KeyT.v KI (ln_ l k).acct = .int .i64 (ln_ l k).acct := rfl
  repeat' (first | refine y1 sg ?_ | refine y3 ?_ | refine y5 sg ?_ | refine y7 sg H ?_ | (refine y10 sg H ?_; intro b w H) | (refine y11 sg H ?_; intro w H) | (refine y40 sg (hs) ?_ ?_ ?_; (omega); (omega)) | (refine y42 sg (hs) ((H.memF hF)) ?_ ?_; (omega)) | (refine zY rfl rfl (Yq.lookM sg KI (Value.int .i64) es (ln_ l k).acct 0 hz H.mem (by repeat (first | exact List.Mem.head _ | refine List.Mem.tail _ ?_)) rfl rfl rfl rfl rfl) ?_) | (refine' y30 ent181 ?_ ?_; rotate_left; exact hAdd _; intro w hcl; replace H := H.ext hcl; clear hcl) | (refine' y30 ent182 ?_ ?_; rotate_left; exact zN9 _ _; intro w hcl; replace H := H.ext hcl; clear hcl) | (refine' y30 ent185 ?_ ?_; rotate_left; exact zQB _ _; intro w hcl; replace H := H.ext hcl; clear hcl) | (refine' y32 ent184 ?_ ?_; rotate_left; exact zOA _; intro v M w hR hS; replace H := H.addR hS; clear hS; (try simp only [List.cons_append, List.nil_append] at H); obtain ⟨bk, rfl, rfl⟩ := hR) | (refine' y30 ent183 ?_ ?_; rotate_left; exact zQC (ln_ l k).kind _ H.mem (by repeat (first | exact List.Mem.head _ | exact List.mem_append_right _ (List.Mem.head _) | refine List.Mem.tail _ ?_)); intro w hcl; replace H := H.ext hcl; clear hcl) | (refine zw mixed 17 ?_ ?_; exact rfl; intro w hcl; replace H := H.ext hcl; clear hcl) | ((with_reducible apply zBD); decide +kernel) | (refine' z8 1 ?_ ?_; rotate_left; first | exact z9 sg) | refine z10 0 ?_ | refine z10 2 ?_ | refine z10 3 ?_ | refine z10 4 ?_ | refine z10 5 ?_ | refine z10 6 ?_ | refine z10 7 ?_ | refine z10 8 ?_ | refine z10 9 ?_ | refine z10 10 ?_ | refine z10 11 ?_ | refine z10 12 ?_ | refine z10 13 ?_ | refine z10 14 ?_ | refine z10 15 ?_ | refine z10 16 ?_ | refine z11 0 2 ?_ ?_ | (refine zw mixed 9 ?_ ?_; exact rfl; intro w hcl; replace H := H.ext hcl; clear hcl) | (refine' z8 0 ?_ ?_; rotate_left; first | exact z9 sg) | (refine' z8 3 ?_ ?_; rotate_left; first | exact z9 sg) | (refine' z8 5 ?_ ?_; rotate_left; first | exact z9 sg) | refine z11 2 4 ?_ ?_ | refine z11 2 6 ?_ ?_ | refine z11 4 6 ?_ ?_ | refine z11 6 7 ?_ ?_ | ((with_reducible apply RA.c3 2 4 6); exact rfl; decide +kernel; exact rfl; exact rfl; exact rfl) | (refine m3 sg KI (Value.int .i64) es (ln_ l k).acct (ln_ l k).bal H (Up.there Up.here) rfl rfl ?_; intro w H) | refine y13 ?_ | refine y14 ?_ | (refine y17 ?_ ?_; all_goals intro h) | (with_reducible first | apply zB | apply zD | apply zC | apply zE | apply zF | apply zL | apply zG | apply zO | apply zS | apply zDL | apply zW) | refine zA ?_ | refine y24 ?_ | refine y25 ?_ | refine y21 ?_ | (refine y23 ?_ ?_; all_goals intro h) | fail)
  all_goals simp only [Bool.not_eq_true', Bool.not_eq_false', decide_eq_true_eq, decide_eq_false_iff_not, beq_iff_eq, beq_eq_false_iff_ne, bne_iff_ne, bne_eq_false_iff_eq, ne_eq, ge_iff_le, gt_iff_lt] at *
  all_goals first
   | exact zQ rfl H.cl (congrArg Value.bool (noB fun q => by
     obtain ⟨⟨g1, g2⟩, g3, g4, g5, g6, g7, g8, g9⟩ := hm.1 (hfacts q)
     first | omega | (cases g3.symm.trans ‹zX (ln_ l k).seq _ _ = false›) | (cases g5.symm.trans ‹zE3 _ = false›) | (cases g7.symm.trans ‹zX (ln_ l k).bal _ _ = false›)))
   | exact zJ (k + 1, zGi es clock (ln_ l k).acct (ln_ l k).bal, zEe es clock (ln_ l k).acct) rfl ⟨zT (by omega), rfl, trivial⟩ ⟨hlt, fun j hj => by
     rcases (show j < k ∨ j = k by have : j < k + 1 := hj; omega) with g | rfl
     ·exact hP j g
     ·exact hm.2 ⟨⟨by omega, by omega⟩, by assumption, by omega, by assumption, by omega, by assumption, by omega, by omega⟩, zNu hMI _ _, hat2, H.sub (by repeat (first | exact List.Sublist.refl _ | exact List.nil_sublist _ | apply List.Sublist.cons_cons | apply List.Sublist.cons))⟩ (by simp only; omega)
 ·obtain rfl : k = l.length := by have := of_decide_eq_false h; omega
  repeat' (first | refine y1 sg ?_ | (with_reducible first | apply zB | apply zD | apply zC | apply zF | apply zL | apply zS) | refine zA ?_ | refine y24 ?_ | fail)
  exact zQ rfl H.cl (congrArg Value.bool (List.all_eq_true.2 fun k hk => hP k (List.mem_range.1 hk)).symm)
def zBP (v : Vws) : Bool := zD0 v.opn v.lots && (zFL v.poss && zEl v.lins)
theorem zOB {F : zI} (v : Vws) (p : VPt) (hw : ∀ k, k < v.lins.length → (ln_ v.lins k).wf) (w0 : World) (hF : Mem w0 F) (hs : VwM F v p) :
  Calls Tryz.prog 33 [.agg (v.cells p).toArray].toArray w0 (Ret (.bool (zBP v)) w0) := by
 refine enter [.tmp 2] Tryz.func33 rfl Tryz.ntmps33 rfl rfl ?_
 have H := zH w0
 repeat' (first | refine y1 sg ?_ | refine y3 ?_ | refine y5 sg ?_ | refine y7 sg H ?_ | (refine y9 H ?_; intro b w H) | (refine' y30 ent84 ?_ ?_; rotate_left; exact c_oMay v.opn v.lots _ (H.memF hF) hs.op hs.lt; intro w hcl; replace H := H.ext hcl; clear hcl) | (refine' y30 ent85 ?_ ?_; rotate_left; exact c_pMay v.poss _ (H.memF hF) hs.ps; intro w hcl; replace H := H.ext hcl; clear hcl) | (refine' y30 ent86 ?_ ?_; rotate_left; exact c_lMay v.lins hw _ (H.memF hF) hs.ln; intro w hcl; replace H := H.ext hcl; clear hcl) | refine y13 ?_ | refine y14 ?_ | (refine y17 ?_ ?_; all_goals intro h) | (with_reducible first | apply zB | apply zD | apply zC | apply zF) | refine zA ?_ | fail)
 all_goals exact zQ rfl H.cl (congrArg Value.bool (by unfold zBP; simp only [*, Bool.true_and, Bool.and_true, Bool.false_and, Bool.and_false]))
end Go.Proofs.YtggolnppckpdlaaGreat
