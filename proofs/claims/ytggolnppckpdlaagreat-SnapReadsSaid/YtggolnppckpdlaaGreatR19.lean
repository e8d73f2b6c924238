/- Texts of ours, joined: the steps of the proof, or the claim's theorem. -/
import Derived.Laws.IdiomStrings
import Derived.Test.YtggolnppckpdlaaGreatR06
set_option linter.unusedSimpArgs false
set_option linter.unusedVariables false
namespace Go.Proofs.YtggolnppckpdlaaGreat
open Go Go.Sk Go.RowKit
attribute [local irreducible] Go.Calls
attribute [local semireducible] OX OW
def byE (s : ByteArray) (j : Nat) : List Value := [.int .u8 (zAI s j)]
set_option maxRecDepth 20000 in
theorem OX.bytes {P : Program} (S : Sig P) {n : Nw} {ops : Array Oper} {Q : Exit → Env → World → Prop} {o : Oper} {rest : List Oper} {L : List (Nat × Value)} {b0 : Env} {w w0 : World} {G : zI} {src dst E : TypeId} {d : Nat} {x : Operand} {s : ByteArray} {ti td te : TI} (H : St w0 G w)
  (ho : o.op = .convert src dst x) (hd : o.dst = some d) (hlt : Nat.blt d n.n = true) (hx : ev (ovl L b0) x = .string s) (ht : lk S.tab src = some ti) (htd : ti.d = .string) (hdt : lk S.tab dst = some td) (hdd : td.d = .slice E) (he : lk S.tab E = some te) (hed : te.d = .int .u8) (hsz : s.size ≤ 140737488355328)
  (k : ∀ b cap w' o', St w0 ((b, o') :: G) w' → Cl w w' → SlA ((b, o') :: G) 1 (some ⟨b, 0, none⟩) s.size cap (byE s) → OW P n ops Q rest (ovl ((d, .slice (some ⟨b, 0, none⟩) s.size cap) :: L) b0) w') :
  OX P n ops Q o rest (ovl L b0) w := by
 intro a ha
 unfold Oper.wp
 rw [ha.eval]
 have h1 := run_bytes_of_string (P := P) w src dst E s (by rw [S.und ht, htd]) (by rw [S.und hdt, hdd]) (by rw [S.und he, hed])
 simp only [execOp, ho, hx, Sem.run_bind, h1, Result.andThen_ok, Sem.run_pure, Oper.upon_value, hd]
 refine k _ _ _ _ (H.drewAlloc _) ?_ ?_ _ (ha.put hlt _)
 ·exact (Below.refl _ _).drew.alloc (Nat.le_refl _) _
 ·refine ⟨grownCap_ge w s.size 0 E, hsz, _, 0, (bytesRow s (grownCap w s.size 0 E)).toList, E, _, fun _ => ⟨rfl, List.Mem.head _, fun j hj => ?_⟩⟩
  have hl : (bytesRow s (grownCap w s.size 0 E)).toList = (s.data.toList.map fun (b : UInt8) => Value.int .u8 b.toNat) ++ List.replicate (grownCap w s.size 0 E - s.size) (Value.int .u8 0) := by simp [bytesRow]
  have hsd : s.size = s.data.toList.length := rfl
  rw [hl]
  have hlt : j < ((s.data.toList.map fun (b : UInt8) => Value.int .u8 b.toNat) ++ List.replicate (grownCap w s.size 0 E - s.size) (Value.int .u8 0)).length := by simp only [List.length_append, List.length_map]; omega
  refine ⟨by omega, ?_⟩
  rw [Nat.zero_add, Nat.mul_one, ← List.getElem_cons_drop hlt, List.take_succ_cons, List.take_zero, List.getElem_append_left (by rw [List.length_map]; omega), List.getElem_map]
  unfold byE zAI
  have h2 : j < s.data.size := hj
  rw [Array.getD, dif_pos h2]
  rfl
set_option maxHeartbeats 2000000 in
set_option maxRecDepth 20000 in
set_option maxHeartbeats 2000000 in
theorem zMA (s : ByteArray) (hsz : s.size ≤ 140737488355328) (w0 : World) : Calls Tryz.prog 269 [.string s].toArray w0 (Ret (.bool (z6 s)) w0) := by
 refine enter [.tmp 2] Tryz.func269 rfl Tryz.ntmps269 rfl rfl ?_
 have H := zH w0
 repeat' (first | refine y1 sg ?_ | refine y3 ?_ | (refine OX.bytes sg H rfl rfl rfl rfl rfl rfl rfl rfl rfl rfl hsz ?_; intro b cap w o1 H _ hB) | (with_reducible first | apply zB | apply zD | apply zC | apply zE) | refine zA ?_ | fail)
 obtain ⟨hcap, _, b2, off, cs, T, fr, hs⟩ := hB
 refine zK [(2, 2), (4, 4), (8, 34)] (fun k : Nat => [(8, .int .i64 (k : Int))]) (fun k w => k ≤ s.size ∧ zGe s k = true ∧ St w0 [(b, o1)] w) (fun k => s.size - k) 0 ⟨rfl, trivial⟩ ⟨Nat.zero_le _, rfl, H⟩ ?_
 clear H
 rintro k gh w ⟨hk, ho, H⟩
 repeat' (first | refine y1 sg ?_ | (with_reducible first | apply zB | apply zD | apply zC) | refine zA ?_ | fail)
 refine zM rfl (fun h => ?_) (fun h => ?_)
 ·have hlt : k < s.size := by have := of_decide_eq_true h; omega
  clear h
  obtain ⟨c, hc⟩ : ∃ c, zAI s k = c := ⟨_, rfl⟩
  have hb := zKy c
  have good : okB c = true → zGe s (k + 1) = true := fun h => by rw [zGt, ho, hc, h]; rfl
  have bad : okB c = false → z6 s = false := fun h => by rw [z6, zIN (hc ▸ h) hlt, Bool.and_false]
  have nok : ∀ {p : Prop}, ¬ ((97 ≤ c ∧ c ≤ 122) ∨ (48 ≤ c ∧ c ≤ 57) ∨ c = 45 ∨ c = 95) → okB c = false := fun h => by
   cases hq : okB c with
   | false => rfl
   | true => exact absurd (hb.1 hq) h
  repeat' (first | refine y1 sg ?_ | refine y3 ?_ | refine y5 sg ?_ | (refine zY rfl rfl (zAK sg hs rfl rfl rfl rfl rfl rfl rfl (Int.toNat_natCast _) (by omega) (by omega)) ?_) | (refine y46 sg (hs) (H.mem) ?_ ?_; (omega)) | refine y13 ?_ | refine y14 ?_ | (refine y17 ?_ ?_; all_goals intro h) | (with_reducible first | apply zB | apply zD | apply zC | apply zE | apply zF | apply zG | apply zO | apply zW) | refine zA ?_ | refine y22 ?_ | (refine y23 ?_ ?_; all_goals intro h) | fail)
  all_goals try rw [hc] at *
  all_goals simp only [decide_eq_true_eq, decide_eq_false_iff_not, ge_iff_le, Bool.not_eq_true', Bool.not_eq_false', beq_iff_eq, beq_eq_false_iff_ne, ne_eq, Bool.not_eq_true, Bool.not_eq_false, bne_iff_ne, bne_eq_false_iff_eq] at *
  all_goals first
   | exact zJ (k + 1) rfl ⟨zT (by omega), trivial⟩ ⟨hlt, good (hb.2 (by omega)), H⟩ (by omega)
   | exact zQ rfl H.cl (congrArg Value.bool (bad (nok (p := True) (by omega))).symm)
   | fail
 ·obtain rfl : k = s.size := by have := of_decide_eq_false h; omega
  repeat' (first | refine y1 sg ?_ | refine y5 sg ?_ | refine y13 ?_ | refine y14 ?_ | (refine y17 ?_ ?_; all_goals intro h) | (with_reducible first | apply zB | apply zD | apply zC | apply zF | apply zL | apply zS) | refine zA ?_ | refine y24 ?_ | fail)
  all_goals simp only [decide_eq_true_eq, decide_eq_false_iff_not, ge_iff_le] at *
  all_goals exact zQ rfl H.cl (congrArg Value.bool (by
   unfold z6
   rw [ho, Bool.and_true]
   by_cases q1 : 1 ≤ s.size
   ·by_cases q2 : s.size ≤ 24
    ·simp [q1, q2] <;> omega
    ·simp [q1, q2] <;> omega
   ·simp [q1] <;> omega))
end Go.Proofs.YtggolnppckpdlaaGreat
