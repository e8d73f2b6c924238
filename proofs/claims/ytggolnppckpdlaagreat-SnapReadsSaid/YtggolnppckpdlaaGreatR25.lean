/- Texts of ours, joined: the steps of the proof, or the claim's theorem. -/
import Derived.Test.YtggolnppckpdlaaGreatR04
import Derived.Test.YtggolnppckpdlaaGreatR06
import Derived.Test.YtggolnppckpdlaaGreatR08
import Derived.Test.YtggolnppckpdlaaGreatR12
import Derived.Test.YtggolnppckpdlaaGreatR18
import Derived.Test.YtggolnppckpdlaaGreatR22
import Derived.Test.YtggolnppckpdlaaGreatR24
set_option linter.unusedSimpArgs false
set_option linter.unusedVariables false
namespace Go.Proofs.YtggolnppckpdlaaGreat
open Go Go.Sk Go.RowKit
attribute [local irreducible] Go.Calls
def zGl (k : Nat) : ByteArray := [⟨#[110, 117, 109, 98, 101, 114, 115]⟩, ⟨#[97, 99, 99, 111, 117, 110, 116, 115]⟩, ⟨#[105, 110, 115, 116, 114, 117, 109, 101, 110, 116, 115]⟩, ⟨#[114, 111, 119, 115]⟩, ⟨#[111, 114, 100, 101, 114, 115]⟩, ⟨#[97, 117, 99, 116, 105, 111, 110, 115]⟩, ⟨#[104, 101, 108, 100]⟩].getD k ⟨#[]⟩
def rulG (k : Nat) : FuncId := [206, 207, 208, 209, 210, 211, 212].getD k 0
def rulE (k : Nat) : List Value := [.string (zGl k), .func (.func (rulG k)) #[] #[]]
theorem rul_sl {b : Nat} {T : TypeId} {fr : Nat × Nat} {F : zI} (hm : (b, Obj.cells zGO.toArray T fr) ∈ F) : SlB F 2 (some ⟨b, 0, none⟩) 7 b 0 zGO T fr rulE := fun _ => ⟨rfl, hm, fun j hj => by
 match j, hj with
 | 0, _ => exact ⟨by decide, rfl⟩
 | 1, _ => exact ⟨by decide, rfl⟩
 | 2, _ => exact ⟨by decide, rfl⟩
 | 3, _ => exact ⟨by decide, rfl⟩
 | 4, _ => exact ⟨by decide, rfl⟩
 | 5, _ => exact ⟨by decide, rfl⟩
 | 6, _ => exact ⟨by decide, rfl⟩⟩
theorem zP4 {k : Nat} (hk : k < 7) : Ent Tryz.prog (rulG k) := by
 match k, hk with
 | 0, _ => exact ent206
 | 1, _ => exact ent207
 | 2, _ => exact ent208
 | 3, _ => exact ent209
 | 4, _ => exact ent210
 | 5, _ => exact ent211
 | 6, _ => exact ent212
def zBO (ok : Nat → Bool) : ByteArray := if idx (fun k => !ok k) 7 < 0 then ⟨#[]⟩ else zGl (idx (fun k => !ok k) 7).toNat
theorem zMH {F : zI} (s : Sta) (p : SPt) (ok : Nat → Bool) (hr : ∀ k, k < 7 → (∀ j, j < k → ok j = true) → ∀ w, Mem w F → Calls Tryz.prog (rulG k) [.agg (s.cells p).toArray].toArray w (Ret (.bool (ok k)) w)) (w0 : World) (hF : Mem w0 F) :
  Calls Tryz.prog 83 [.agg (s.cells p).toArray].toArray w0 (Ret (.string (zBO ok)) w0) := by
 refine enter [.tmp 2] Tryz.func83 rfl Tryz.ntmps83 rfl rfl ?_
 have H := zH w0
 repeat' (first | refine y1 sg ?_ | refine y3 ?_ | (refine y9 H ?_; intro b w H) | (refine' y32 ent168 ?_ ?_; rotate_left; exact zP3 _; intro v M w hR hS; replace H := H.addR hS; clear hS; (try simp only [List.cons_append, List.nil_append] at H); obtain ⟨br, TR, fr, rfl, rfl⟩ := hR) | (with_reducible first | apply zB | apply zD | apply zC | apply zE) | refine zA ?_ | fail)
 refine zK [(2, 2), (4, 4), (7, 18)] (fun k : Nat => [(7, .int .i64 (k : Int))]) (fun k w => k ≤ 7 ∧ (∀ j, j < k → (!ok j) = false) ∧ St w0 [cb _ (s.cells p) 29, (br, Obj.cells zGO.toArray TR fr)] w) (fun k => 7 - k) 0 ⟨rfl, trivial⟩ ⟨Nat.zero_le _, fun j hj => absurd hj (Nat.not_lt_zero _), H⟩ ?_
 clear H
 rintro k gh w ⟨hk, hn, H⟩
 have hs1 := fun {F : zI} (hm : (br, Obj.cells zGO.toArray TR fr) ∈ F) => rul_sl hm
 repeat' (first | refine y1 sg ?_ | (with_reducible first | apply zB | apply zD | apply zC) | refine zA ?_ | fail)
 refine zM rfl (fun h => ?_) (fun h => ?_)
 ·have hlt : k < 7 := by have := of_decide_eq_true h; omega
  clear h
  obtain ⟨okk, hok⟩ : ∃ b, ok k = b := ⟨_, rfl⟩
  have hrk := hr k hlt fun j hj => by have := hn j hj; simpa using this
  rw [hok] at hrk
  repeat' (first | refine y1 sg ?_ | refine y3 ?_ | refine y7 sg H ?_ | (refine y10 sg H ?_; intro b w H) | (refine y11 sg H ?_; intro w H) | (refine y40 sg (hs1 (List.Mem.head [])) ?_ ?_ ?_; (omega); (omega)) | (refine zY rfl rfl (zB4 sg (hs1 (by first | exact List.Mem.head _ | exact List.Mem.tail _ (List.Mem.head _))) H.mem rfl rfl rfl rfl rfl hlt) ?_) | (refine OX.call rfl rfl (zAH (zP4 hlt) rfl rfl rfl) (hrk _ (H.memF hF)) ?_; intro w hcl; replace H := H.ext hcl; clear hcl) | (with_reducible first | apply zB | apply zD | apply zC | apply zE | apply zF | apply zG | apply zO | apply zW) | refine zA ?_ | (refine y23 ?_ ?_; all_goals intro h) | fail)
  all_goals rw [← hok] at h
  all_goals first
   | exact zQ rfl H.cl (congrArg Value.string (by unfold zBO; rw [zA5 hlt hn h, if_neg (by omega), Int.toNat_natCast]))
   | (refine zJ (k + 1) rfl ⟨zT (by omega), trivial⟩ ⟨hlt, fun j hj => ?_, H.sub (List.sublist_cons_self _ _)⟩ (by omega)
      rcases (show j < k ∨ j = k by omega) with g | rfl
      ·exact hn j g
      ·exact h)
   | fail
 ·obtain rfl : k = 7 := by have := of_decide_eq_false h; omega
  repeat' (first | refine y1 sg ?_ | (with_reducible first | apply zB | apply zD | apply zC | apply zF | apply zL | apply zS) | refine zA ?_ | refine y24 ?_ | fail)
  exact zQ rfl H.cl (congrArg Value.string (by unfold zBO; rw [zAm hn]; rfl))
end Go.Proofs.YtggolnppckpdlaaGreat
set_option linter.unusedSimpArgs false
set_option linter.unusedVariables false
namespace Go.Proofs.YtggolnppckpdlaaGreat
open Go Go.Sk Go.RowKit
attribute [local irreducible] Go.Calls
def zDa (s : Sta) (k : Nat) : Bool := [zDz s, zCn s.accts, zBs s.insts, zCE s, zAp s, zBi s, zDX s].getD k true
structure StaW (s : Sta) : Prop where
 ac : s.accts.length ≤ 10000
 acN : ∀ k, k < s.accts.length → (ac_ s.accts k).name.size ≤ 140737488355328
 ins : s.insts.length ≤ 10000
 insN : ∀ k, k < s.insts.length → (in_ s.insts k).name.size ≤ 140737488355328
 rw : ∀ j, j < s.rows.length → (rw_ s.rows j).wf
theorem zP5 {F : zI} (s : Sta) (p : SPt) (hW : StaW s) (w0 : World) (hF : Mem w0 F) (hs : StaM F s p) :
  Calls Tryz.prog 83 [.agg (s.cells p).toArray].toArray w0 (Ret (.string (zBO (zDa s))) w0) := by
 refine zMH s p (zDa s) (fun k hk hj w hM => ?_) w0 hF
 match k, hk with
 | 0, _ => exact zME s p w
 | 1, _ => exact zJm s p hW.ac hW.acN w hM hs
 | 2, _ => exact zGk s p hW.ins hW.insN w hM hs
 | 3, _ => exact c_rows s p hW.rw w hM hs
 | 4, _ => exact zN7 s p (hj 2 (by omega)) w hM hs
 | 5, _ => exact zJo s p w hM hs
 | 6, _ => exact c_held s p w hM hs
def zDb (s : Sta) : Bool := (List.range 7).all (zDa s)
theorem zEj (ok : Nat → Bool) : ((zBO ok).toList == (ByteArray.mk #[]).toList) = (List.range 7).all ok := by
 rcases z7 (fun k => !ok k) 7 with ⟨k, hk, _, hp, h2⟩ | ⟨h1, h2⟩
 ·unfold zBO
  rw [h2, if_neg (by omega), Int.toNat_natCast]
  have hf : (List.range 7).all ok = false := List.all_eq_false.2 ⟨k, List.mem_range.2 hk, by simpa using hp⟩
  rw [hf]
  match k, hk with
  | 0, _ => rw [ByteArray.toList_eq, ByteArray.toList_eq]; decide
  | 1, _ => rw [ByteArray.toList_eq, ByteArray.toList_eq]; decide
  | 2, _ => rw [ByteArray.toList_eq, ByteArray.toList_eq]; decide
  | 3, _ => rw [ByteArray.toList_eq, ByteArray.toList_eq]; decide
  | 4, _ => rw [ByteArray.toList_eq, ByteArray.toList_eq]; decide
  | 5, _ => rw [ByteArray.toList_eq, ByteArray.toList_eq]; decide
  | 6, _ => rw [ByteArray.toList_eq, ByteArray.toList_eq]; decide
 ·unfold zBO
  rw [h2, if_pos (by omega)]
  have hf : (List.range 7).all ok = true := List.all_eq_true.2 fun k hk => by have := h1 k (List.mem_range.1 hk); simpa using this
  rw [hf, ByteArray.toList_eq]; decide
theorem zLA {F : zI} (s : Sta) (p : SPt) (hW : StaW s) (w0 : World) (hF : Mem w0 F) (hs : StaM F s p) :
  Calls Tryz.prog 32 [.agg (s.cells p).toArray].toArray w0 (Ret (.bool (zDb s)) w0) := by
 have hc := fun w hM => zP5 s p hW w hM hs
 have he := zEj (zDa s)
 obtain ⟨c, hcc⟩ : ∃ c, zBO (zDa s) = c := ⟨_, rfl⟩
 rw [hcc] at hc he
 refine enter [.tmp 2] Tryz.func32 rfl Tryz.ntmps32 rfl rfl ?_
 have H := zH w0
 repeat' (first | refine y1 sg ?_ | refine y3 ?_ | refine y7 sg H ?_ | (refine y9 H ?_; intro b w H) | (refine' y30 ent83 ?_ ?_; rotate_left; exact hc _ (H.memF hF); intro w hcl; replace H := H.ext hcl; clear hcl) | (with_reducible first | apply zB | apply zD | apply zC | apply zF) | refine zA ?_ | fail)
 all_goals exact zQ rfl H.cl (congrArg Value.bool he)
end Go.Proofs.YtggolnppckpdlaaGreat
set_option linter.unusedSimpArgs false
set_option linter.unusedVariables false
namespace Go.Proofs.YtggolnppckpdlaaGreat
open Go Go.Sk Go.RowKit
attribute [local irreducible] Go.Calls
theorem zIn (n m : Int) (w : World) : Calls Tryz.prog 216 [.int .i64 n, .int .i64 m].toArray w (Ret (.bool (zX n 1 m)) w) := by
 refine enter [.tmp 4] Tryz.func216 rfl Tryz.ntmps216 rfl rfl ?_
 have H := zH w
 repeat' (first | refine y1 sg ?_ | refine y5 sg ?_ | refine y13 ?_ | refine y14 ?_ | (refine y17 ?_ ?_; all_goals intro h) | (with_reducible first | apply zB | apply zD | apply zC | apply zF) | refine zA ?_ | fail)
 all_goals simp only [decide_eq_true_eq, decide_eq_false_iff_not, ge_iff_le] at *
 all_goals exact zQ rfl H.cl (congrArg Value.bool (by unfold zX; simp only [*, decide_true, decide_false, Bool.true_and, Bool.and_true, Bool.false_and, Bool.and_false]))
theorem zG7 (n m : Int) (w : World) : Calls Tryz.prog 217 [.int .i64 n, .int .i64 m].toArray w (Ret (.bool (zX n 1 m)) w) := by
 refine enter [.tmp 4] Tryz.func217 rfl Tryz.ntmps217 rfl rfl ?_
 have H := zH w
 repeat' (first | refine y1 sg ?_ | refine y5 sg ?_ | refine y13 ?_ | refine y14 ?_ | (refine y17 ?_ ?_; all_goals intro h) | (with_reducible first | apply zB | apply zD | apply zC | apply zF) | refine zA ?_ | fail)
 all_goals simp only [decide_eq_true_eq, decide_eq_false_iff_not, ge_iff_le] at *
 all_goals exact zQ rfl H.cl (congrArg Value.bool (by unfold zX; simp only [*, decide_true, decide_false, Bool.true_and, Bool.and_true, Bool.false_and, Bool.and_false]))
def zBj (o : Opn) : Bool := zX o.acct 1 64 && (zX o.id 1 1099511627776 && (zX o.inst 1 16 && ((o.side == 1 || o.side == 2) && (zX o.price 1 1073741824 && zX o.left 1 1048576))))
def zCV (l : Lt) : Bool := zX l.id 1 1099511627776 && (zX l.seller 1 64 && (zX l.inst 1 16 && zX l.qty 1 1048576))
set_option maxHeartbeats 2000000 in
theorem zN8 (o : Opn) (w : World) : Calls Tryz.prog 173 [.agg o.cells.toArray].toArray w (Ret (.bool (zBj o)) w) := by
 refine enter [.tmp 2] Tryz.func173 rfl Tryz.ntmps173 rfl rfl ?_
 have H := zH w
 repeat' (first | refine y1 sg ?_ | refine y3 ?_ | refine y5 sg ?_ | refine y7 sg H ?_ | (refine y9 H ?_; intro b w H) | (refine' y30 zMy ?_ ?_; rotate_left; exact zIn _ _ _; intro w hcl; replace H := H.ext hcl; clear hcl) | (refine' y30 zMz ?_ ?_; rotate_left; exact zG7 _ _ _; intro w hcl; replace H := H.ext hcl; clear hcl) | refine y13 ?_ | refine y14 ?_ | (refine y17 ?_ ?_; all_goals intro h) | (with_reducible first | apply zB | apply zD | apply zC | apply zF) | refine zA ?_ | fail)
 all_goals exact zQ rfl H.cl (congrArg Value.bool (by unfold zBj; simp only [*, Bool.true_and, Bool.and_true, Bool.false_and, Bool.and_false, Bool.true_or, Bool.or_true, Bool.false_or, Bool.or_false]))
theorem zP6 (l : Lt) (w : World) : Calls Tryz.prog 178 [.agg l.cells.toArray].toArray w (Ret (.bool (zCV l)) w) := by
 refine enter [.tmp 2] Tryz.func178 rfl Tryz.ntmps178 rfl rfl ?_
 have H := zH w
 repeat' (first | refine y1 sg ?_ | refine y3 ?_ | refine y5 sg ?_ | refine y7 sg H ?_ | (refine y9 H ?_; intro b w H) | (refine' y30 zMy ?_ ?_; rotate_left; exact zIn _ _ _; intro w hcl; replace H := H.ext hcl; clear hcl) | (refine' y30 zMz ?_ ?_; rotate_left; exact zG7 _ _ _; intro w hcl; replace H := H.ext hcl; clear hcl) | refine y13 ?_ | refine y14 ?_ | (refine y17 ?_ ?_; all_goals intro h) | (with_reducible first | apply zB | apply zD | apply zC | apply zF) | refine zA ?_ | fail)
 all_goals exact zQ rfl H.cl (congrArg Value.bool (by unfold zCV; simp only [*, Bool.true_and, Bool.and_true, Bool.false_and, Bool.and_false]))
theorem zP7 (l : Lt) (w : World) : Calls Tryz.prog 177 [.agg l.cells.toArray].toArray w (Ret (.bool (!zCV l)) w) := by
 refine enter [.tmp 2] Tryz.func177 rfl Tryz.ntmps177 rfl rfl ?_
 have H := zH w
 repeat' (first | refine y1 sg ?_ | refine y3 ?_ | refine y7 sg H ?_ | (refine y9 H ?_; intro b w H) | (refine' y30 ent178 ?_ ?_; rotate_left; exact zP6 l _; intro w hcl; replace H := H.ext hcl; clear hcl) | (with_reducible first | apply zB | apply zD | apply zC | apply zF) | refine zA ?_ | fail)
 all_goals exact zQ rfl H.cl rfl
def cmpO (a b : Opn) : Int := zJd a.acct a.id b.acct b.id
set_option maxHeartbeats 2000000 in
theorem c_orow (a b : Opn) (w0 : World) : Calls Tryz.prog 170 [.agg a.cells.toArray, .agg b.cells.toArray].toArray w0 (Ret (.int .i64 (cmpO a b)) w0) := by
 refine enter [.tmp 4] Tryz.func170 rfl Tryz.ntmps170 rfl rfl ?_
 have H := zH w0
 repeat' (first | refine y1 sg ?_ | refine y2 sg ?_ | refine y3 ?_ | refine y4 ?_ | refine y8 sg H ?_ | (refine y9 H ?_; intro b w H) | refine y12 ?_ | (refine CW.regionR mixed ?_; intro w hcl; replace H := H.ext hcl; clear hcl; (with_reducible apply RW.quiet 10); exact rfl; decide +kernel; simp only [List.append_eq, List.cons_append, List.nil_append, List.take_succ_cons, List.take_zero, List.drop_zero]) | (refine' y31 zJQ ?_ ?_; rotate_left; exact (fun _ hcl => zEA _ _ _)) | (refine' y31 zJR ?_ ?_; rotate_left; exact (fun _ hcl => zEw _ _ _)) | (refine z14 sg H ?_; intro b w H) | (refine' y30 zJP ?_ ?_; rotate_left; exact zNW _ _ _ (H.mem) (List.Mem.head _); intro w hcl; replace H := H.ext hcl; clear hcl) | (with_reducible first | apply zB | apply zD | apply zC | apply zF) | (with_reducible apply zV; intro w hcl; replace H := H.ext hcl; clear hcl) | refine y19 ?_ | refine zA ?_ | fail)
 exact zQ rfl H.cl rfl
def cmpT (a b : Lt) : Int := zEv a.id b.id
theorem zP8 (a b : Lt) (w0 : World) : Calls Tryz.prog 172 [.agg a.cells.toArray, .agg b.cells.toArray].toArray w0 (Ret (.int .i64 (cmpT a b)) w0) := by
 refine enter [.tmp 4] Tryz.func172 rfl Tryz.ntmps172 rfl rfl ?_
 have H := zH w0
 repeat' (first | refine y1 sg ?_ | refine y3 ?_ | refine y7 sg H ?_ | (refine y9 H ?_; intro b w H) | (refine' y30 zJR ?_ ?_; rotate_left; exact zEw _ _ _; intro w hcl; replace H := H.ext hcl; clear hcl) | (with_reducible first | apply zB | apply zD | apply zC | apply zF) | refine zA ?_ | fail)
 exact zQ rfl H.cl rfl
def zGP (l : List Opn) : Bool := (List.range l.length).all fun k => k == 0 || decide (cmpO (op_ l (k - 1)) (op_ l k) < 0)
theorem zDl {l : List Opn} : zGP l = true ↔ ∀ k, k < l.length → 0 < k → cmpO (op_ l (k - 1)) (op_ l k) < 0 := by
 unfold zGP
 rw [List.all_eq_true]
 simp only [List.mem_range, Bool.or_eq_true, beq_iff_eq, decide_eq_true_eq]
 constructor
 ·intro h k hk h0
  exact (h k hk).resolve_left (by omega)
 ·intro h k hk
  rcases Nat.eq_zero_or_pos k with g | g
  ·exact .inl g
  ·exact .inr (h k hk g)
theorem zP9 {F : zI} {a : Option Addr} {cap : Nat} (l : List Opn) (w0 : World) (hF : Mem w0 F) (hs : SlA F 6 a l.length cap (opl l)) :
  Calls Tryz.prog 169 [.slice a l.length cap, .func (.func 170) #[] #[]].toArray w0 (Ret (.bool (zGP l)) w0) := by
 obtain ⟨hnc, hcb, b0, off, cs, T, fr, hs⟩ := hs
 refine enter [.tmp 4] Tryz.func169 rfl Tryz.ntmps169 rfl rfl ?_
 have H := zH w0
 repeat' (first | refine y1 sg ?_ | (with_reducible first | apply zB | apply zD | apply zC | apply zE) | refine zA ?_ | fail)
 refine zK [(4, 23)] (fun j : Nat => [(5, .int .i64 ((j + 1 : Nat) : Int))]) (fun j w => j ≤ l.length ∧ (∀ i, i < l.length → 0 < i → i < j + 1 → cmpO (op_ l (i - 1)) (op_ l i) < 0) ∧ St w0 [] w) (fun j => l.length - j) 0 ⟨rfl, trivial⟩ ⟨Nat.zero_le _, fun i _ h1 h2 => absurd h1 (by omega), H⟩ ?_
 clear H
 rintro j gh w ⟨hj, hP, H⟩
 repeat' (first | refine y1 sg ?_ | (with_reducible first | apply zB | apply zD | apply zC) | refine zA ?_ | fail)
 refine zM rfl (fun h => ?_) (fun h => ?_)
 ·have hlt : j + 1 < l.length := by have := of_decide_eq_true h; omega
  clear h
  repeat' (first | refine y2 sg ?_ | refine y4 ?_ | (refine y41 sg (hs) ?_ ?_ ?_; (first | omega | (rw [w64 (by omega) (by omega)]; omega)); (first | omega | (rw [w64 (by omega) (by omega)]; omega))) | (refine y43 sg (hs) ((H.memF hF)) ?_ ?_; (omega)) | (refine' y35 ent170 ?_ ?_; rotate_left; exact (fun _ hcl => c_orow (op_ l j) (op_ l (j + 1)) _)) | (with_reducible apply zV; intro w hcl; replace H := H.ext hcl; clear hcl) | (with_reducible first | apply zD | apply zC | apply zE | apply zG) | refine y20 mixed ?_ | fail)
  refine zM rfl (fun h => ?_) (fun h => ?_)
  ·have hge := of_decide_eq_true h
   repeat' (first | refine y1 sg ?_ | (with_reducible first | apply zB | apply zD | apply zC | apply zF | apply zO | apply zW) | refine zA ?_ | fail)
   refine zQ rfl H.cl (congrArg Value.bool (noB fun q => ?_))
   have := zDl.1 q (j + 1) hlt (by omega)
   simp only [Nat.add_sub_cancel] at this
   omega
  ·have hlt2 := of_decide_eq_false h
   repeat' (first | refine y1 sg ?_ | (with_reducible first | apply zB | apply zD | apply zG) | refine zA ?_ | fail)
   refine zJ (j + 1) rfl ⟨zT (by omega), trivial⟩ ⟨by omega, fun i h1 h2 h3 => ?_, H⟩ (by omega)
   rcases (show i < j + 1 ∨ i = j + 1 by omega) with g | rfl
   ·exact hP i h1 h2 g
   ·simp only [Nat.add_sub_cancel]; omega
 ·have hge : l.length ≤ j + 1 := by have := of_decide_eq_false h; omega
  repeat' (first | refine y1 sg ?_ | (with_reducible first | apply zB | apply zD | apply zC | apply zF | apply zL | apply zS) | refine zA ?_ | refine y24 ?_ | fail)
  exact zQ rfl H.cl (congrArg Value.bool (zDl.2 fun i h1 h2 => hP i h1 h2 (by omega)).symm)
def zFK (l : List Lt) : Bool := (List.range l.length).all fun k => k == 0 || decide (cmpT (lt_ l (k - 1)) (lt_ l k) < 0)
theorem zDm {l : List Lt} : zFK l = true ↔ ∀ k, k < l.length → 0 < k → cmpT (lt_ l (k - 1)) (lt_ l k) < 0 := by
 unfold zFK
 rw [List.all_eq_true]
 simp only [List.mem_range, Bool.or_eq_true, beq_iff_eq, decide_eq_true_eq]
 constructor
 ·intro h k hk h0
  exact (h k hk).resolve_left (by omega)
 ·intro h k hk
  rcases Nat.eq_zero_or_pos k with g | g
  ·exact .inl g
  ·exact .inr (h k hk g)
theorem zQA {F : zI} {a : Option Addr} {cap : Nat} (l : List Lt) (w0 : World) (hF : Mem w0 F) (hs : SlA F 4 a l.length cap (ltl l)) :
  Calls Tryz.prog 171 [.slice a l.length cap, .func (.func 172) #[] #[]].toArray w0 (Ret (.bool (zFK l)) w0) := by
 obtain ⟨hnc, hcb, b0, off, cs, T, fr, hs⟩ := hs
 refine enter [.tmp 4] Tryz.func171 rfl Tryz.ntmps171 rfl rfl ?_
 have H := zH w0
 repeat' (first | refine y1 sg ?_ | (with_reducible first | apply zB | apply zD | apply zC | apply zE) | refine zA ?_ | fail)
 refine zK [(4, 23)] (fun j : Nat => [(5, .int .i64 ((j + 1 : Nat) : Int))]) (fun j w => j ≤ l.length ∧ (∀ i, i < l.length → 0 < i → i < j + 1 → cmpT (lt_ l (i - 1)) (lt_ l i) < 0) ∧ St w0 [] w) (fun j => l.length - j) 0 ⟨rfl, trivial⟩ ⟨Nat.zero_le _, fun i _ h1 h2 => absurd h1 (by omega), H⟩ ?_
 clear H
 rintro j gh w ⟨hj, hP, H⟩
 repeat' (first | refine y1 sg ?_ | (with_reducible first | apply zB | apply zD | apply zC) | refine zA ?_ | fail)
 refine zM rfl (fun h => ?_) (fun h => ?_)
 ·have hlt : j + 1 < l.length := by have := of_decide_eq_true h; omega
  clear h
  repeat' (first | refine y2 sg ?_ | refine y4 ?_ | (refine y41 sg (hs) ?_ ?_ ?_; (first | omega | (rw [w64 (by omega) (by omega)]; omega)); (first | omega | (rw [w64 (by omega) (by omega)]; omega))) | (refine y43 sg (hs) ((H.memF hF)) ?_ ?_; (omega)) | (refine' y35 ent172 ?_ ?_; rotate_left; exact (fun _ hcl => zP8 (lt_ l j) (lt_ l (j + 1)) _)) | (with_reducible apply zV; intro w hcl; replace H := H.ext hcl; clear hcl) | (with_reducible first | apply zD | apply zC | apply zE | apply zG) | refine y20 mixed ?_ | fail)
  refine zM rfl (fun h => ?_) (fun h => ?_)
  ·have hge := of_decide_eq_true h
   repeat' (first | refine y1 sg ?_ | (with_reducible first | apply zB | apply zD | apply zC | apply zF | apply zO | apply zW) | refine zA ?_ | fail)
   refine zQ rfl H.cl (congrArg Value.bool (noB fun q => ?_))
   have := zDm.1 q (j + 1) hlt (by omega)
   simp only [Nat.add_sub_cancel] at this
   omega
  ·have hlt2 := of_decide_eq_false h
   repeat' (first | refine y1 sg ?_ | (with_reducible first | apply zB | apply zD | apply zG) | refine zA ?_ | fail)
   refine zJ (j + 1) rfl ⟨zT (by omega), trivial⟩ ⟨by omega, fun i h1 h2 h3 => ?_, H⟩ (by omega)
   rcases (show i < j + 1 ∨ i = j + 1 by omega) with g | rfl
   ·exact hP i h1 h2 g
   ·simp only [Nat.add_sub_cancel]; omega
 ·have hge : l.length ≤ j + 1 := by have := of_decide_eq_false h; omega
  repeat' (first | refine y1 sg ?_ | (with_reducible first | apply zB | apply zD | apply zC | apply zF | apply zL | apply zS) | refine zA ?_ | refine y24 ?_ | fail)
  exact zQ rfl H.cl (congrArg Value.bool (zDm.2 fun i h1 h2 => hP i h1 h2 (by omega)).symm)
end Go.Proofs.YtggolnppckpdlaaGreat
set_option linter.unusedSimpArgs false
set_option linter.unusedVariables false
namespace Go.Proofs.YtggolnppckpdlaaGreat
open Go Go.Sk Go.RowKit
attribute [local irreducible] Go.Calls
def zD0 (l : List Opn) (m : List Lt) : Bool := decide (l.length ≤ 128) && (decide (m.length ≤ 32) && (zGP l && (zFK m && ((List.range l.length).all (fun k => zBj (op_ l k)) && (decide (l.map (·.id)).Nodup && (List.range m.length).all (fun k => zCV (lt_ m k)))))))
theorem zB0 {l : List Opn} {m : List Lt} : zD0 l m = true ↔ l.length ≤ 128 ∧ m.length ≤ 32 ∧ zGP l = true ∧ zFK m = true ∧ (∀ k, k < l.length → zBj (op_ l k) = true) ∧ (l.map (·.id)).Nodup ∧ (∀ k, k < m.length → zCV (lt_ m k) = true) := by
 unfold zD0
 simp only [Bool.and_eq_true, decide_eq_true_eq, List.all_eq_true, List.mem_range]
set_option maxHeartbeats 4000000 in
theorem c_oMay {F : zI} {a a2 : Option Addr} {cap cap2 : Nat} (l : List Opn) (m : List Lt) (w0 : World) (hF : Mem w0 F) (hs : SlA F 6 a l.length cap (opl l)) (ht : SlA F 4 a2 m.length cap2 (ltl m)) :
  Calls Tryz.prog 84 [.slice a l.length cap, .slice a2 m.length cap2].toArray w0 (Ret (.bool (zD0 l m)) w0) := by
 have hs0 := hs
 obtain ⟨hnc, hcb, b0, off, cs, T, fr, hs⟩ := hs
 refine enter [.tmp 4] Tryz.func84 rfl Tryz.ntmps84 rfl rfl ?_
 have H := zH w0
 repeat' (first | refine y1 sg ?_ | refine y5 sg ?_ | (refine' y30 ent169 ?_ ?_; rotate_left; exact zP9 l _ (H.memF hF) hs0; intro w hcl; replace H := H.ext hcl; clear hcl) | (refine' y30 ent171 ?_ ?_; rotate_left; exact zQA m _ (H.memF hF) ht; intro w hcl; replace H := H.ext hcl; clear hcl) | refine y13 ?_ | refine y14 ?_ | (refine y17 ?_ ?_; all_goals intro h) | (with_reducible first | apply zB | apply zD | apply zC | apply zF | apply zO) | refine zA ?_ | refine y21 ?_ | fail)
 all_goals first
  | (simp only [decide_eq_true_eq, decide_eq_false_iff_not, Bool.not_eq_true'] at *
     exact zQ rfl H.cl (congrArg Value.bool (noB fun q => by
      obtain ⟨q1, q2, q3, q4, _⟩ := zB0.1 q
      first | omega | (cases q3.symm.trans ‹zGP l = false›) | (cases q4.symm.trans ‹zFK m = false›))))
  | skip
 rename_i hl1 hl2 _
 have hlen1 : l.length ≤ 128 := by have := of_decide_eq_false hl1; omega
 have hlen2 : m.length ≤ 32 := by have := of_decide_eq_false hl2; omega
 have hrO : zGP l = true := by simpa using h
 clear hl1 hl2 h
 refine zM rfl (fun h => ?_) (fun h => ?_)
 ·have hbad : zFK m = false := by simpa using h
  repeat' (first | refine y1 sg ?_ | (with_reducible first | apply zB | apply zD | apply zC | apply zF | apply zO) | refine zA ?_ | fail)
  exact zQ rfl H.cl (congrArg Value.bool (noB fun q => by
   obtain ⟨_, _, _, q4, _⟩ := zB0.1 q
   cases q4.symm.trans hbad))
 have hrL : zFK m = true := by simpa using h
 clear h
 repeat' (first | refine y1 sg ?_ | (with_reducible first | apply zB | apply zD | apply zC | apply zE | apply zG) | refine zA ?_ | fail)
 refine zK [(4, 5), (7, 7), (28, 40)] (fun x : Gr => [(28, .int .i64 (x.k : Int)), (5, .slice x.a x.k x.cap)]) (fun x w => x.k ≤ l.length ∧ (∀ j, j < x.k → zBj (op_ l j) = true) ∧ Go.Sk.Own x.M 2 1 x.a x.k x.cap ((l.take x.k).map fun y => Value.int .i64 y.id) ∧ St w0 (x.M ++ []) w) (fun x => l.length - x.k) ⟨0, none, 0, []⟩ ⟨rfl, rfl, trivial⟩ ⟨Nat.zero_le _, fun j hj => absurd hj (Nat.not_lt_zero _), zAG _ _ _, H⟩ ?_
 clear H
 rintro ⟨k, ao, co, M⟩ gh w ⟨hk, hr, hO, H⟩
 simp only at hk hr hO H ⊢
 repeat' (first | refine y1 sg ?_ | (with_reducible first | apply zB | apply zD | apply zC) | refine zA ?_ | fail)
 refine zM rfl (fun h => ?_) (fun h => ?_)
 ·have hlt : k < l.length := by have := of_decide_eq_true h; omega
  clear h
  repeat' (first | refine y1 sg ?_ | refine y3 ?_ | refine y7 sg H ?_ | (refine y10 sg H ?_; intro b w H) | (refine y11 sg H ?_; intro w H) | (refine y40 sg (hs) ?_ ?_ ?_; (omega); (omega)) | (refine y42 sg (hs) ((H.memF hF)) ?_ ?_; (omega)) | (refine' y30 ent173 ?_ ?_; rotate_left; exact zN8 (op_ l k) _; intro w hcl; replace H := H.ext hcl; clear hcl) | (with_reducible first | apply zB | apply zD | apply zC | apply zE | apply zG) | refine zA ?_ | fail)
  refine zM rfl (fun h => ?_) (fun h => ?_)
  ·have hbad : zBj (op_ l k) = false := by simpa using h
   repeat' (first | refine y1 sg ?_ | (with_reducible first | apply zB | apply zD | apply zC | apply zF | apply zO | apply zW) | refine zA ?_ | fail)
   exact zQ rfl H.cl (congrArg Value.bool (noB fun q => by
    obtain ⟨_, _, _, _, q5, _⟩ := zB0.1 q
    cases (q5 k hlt).symm.trans hbad))
  ·have hok : zBj (op_ l k) = true := by simpa using h
   clear h
   repeat' (first | refine y1 sg ?_ | refine y3 ?_ | refine y7 sg H ?_ | (refine z14 sg H ?_; intro b w H) | (have hp := H.perm (zt M []); refine zi sg 1 8 (M := M) hp rfl rfl rfl rfl rfl rfl rfl rfl rfl rfl rfl hO (zk hp.mem (List.mem_append_right _ (List.Mem.head _))) rfl (zAh rfl) (by unfold maxLen; omega) (by omega) ?_; clear hp hO; intro ao co M w hO H; replace H := H.perm (zt M []).symm) | (with_reducible first | apply zB | apply zD | apply zG) | refine zA ?_ | fail)
   exact zJ ⟨k + 1, ao, co, M⟩ rfl ⟨zT (by omega), rfl, trivial⟩ ⟨hlt, fun j hj => by
    rcases (show j < k ∨ j = k by have : j < k + 1 := hj; omega) with g | rfl
    ·exact hr j g
    ·exact hok, by show Go.Sk.Own M _ 1 ao (k + 1) co _; rw [← zGM (fun y : Opn => Value.int .i64 y.id) l default hlt]; exact hO, (H.sub (List.sublist_cons_self _ _)).sub (List.sublist_cons_self _ _)⟩ (by show l.length - (k + 1) < l.length - k; omega)
 ·obtain rfl : k = l.length := by have := of_decide_eq_false h; omega
  clear h
  rw [List.take_length] at hO
  have hln : (l.map (·.id)).length = l.length := by simp
  have hO2 : Go.Sk.Own M 2 1 ao (l.map (·.id)).length co ((l.map (·.id)).map (Value.int .i64)) := by rw [hln]; simpa [Function.comp_def] using hO
  have hcmp := zIj (l.map (·.id))
  obtain ⟨S, hS⟩ : ∃ S, ((l.map (·.id)).mergeSort fun x y => decide (x ≤ y)) = S := ⟨_, rfl⟩
  have hSl : S.length = (l.map (·.id)).length := by rw [← hS]; exact (List.mergeSort_perm _ _).length_eq
  have hso := fun {w : World} => zPz (w0 := w0) (w := w) (M := M) (G := []) (a := ao) (cap := co) (l.map (·.id)) (by omega)
  rw [hS] at hcmp hso
  rw [hln] at hcmp hso hSl hO2
  have hall : (List.range l.length).all (fun k => zBj (op_ l k)) = true := List.all_eq_true.2 fun k hk => hr k (List.mem_range.1 hk)
  repeat' (first | refine y1 sg ?_ | refine y3 ?_ | (refine' y33 ent174 ?_ ?_; rotate_left 2; exact hso H hO2; rintro v N w ⟨rfl, M, rfl, hO⟩ H) | (with_reducible first | apply zB | apply zD | apply zC | apply zL | apply zS) | refine zA ?_ | refine y24 ?_ | fail)
  rw [← hSl] at hO
  have hco := fun {w : World} => zP0 (w0 := w0) (w := w) (M := M) (G := []) (a := ao) (cap := co) S (by omega)
  rw [hSl] at hco hO
  repeat' (first | refine y1 sg ?_ | refine y5 sg ?_ | (refine' y33 ent175 ?_ ?_; rotate_left 2; exact hco H hO; rintro v N w ⟨rfl, a4, c4, rfl⟩ H) | (refine' y30 ent176 ?_ ?_; rotate_left; exact zGc (caps := []) (fun j => !zCV (lt_ m j)) _ (H.memF hF) ht ent177 (fun j hj w' _ => zP7 (lt_ m j) w'); intro w hcl; replace H := H.ext hcl; clear hcl) | refine y13 ?_ | refine y14 ?_ | (refine y17 ?_ ?_; all_goals intro h) | (with_reducible first | apply zB | apply zD | apply zF) | fail)
  ·have hnd : (l.map (·.id)).Nodup := hcmp.1 (by have := eqI h; omega)
   refine zQ rfl H.cl (congrArg Value.bool ?_)
   unfold zD0
   rw [hall, hrO, hrL, decide_eq_true hlen1, decide_eq_true hlen2, decide_eq_true hnd]
   simp only [Bool.true_and]
   rcases z7 (fun j => !zCV (lt_ m j)) m.length with ⟨j, hj, _, hp, h2⟩ | ⟨h1, h2⟩
   ·rw [h2, decide_eq_true (by omega)]
    have : (List.range m.length).all (fun k => zCV (lt_ m k)) = false := List.all_eq_false.2 ⟨j, List.mem_range.2 hj, by simpa using hp⟩
    rw [this]; rfl
   ·rw [h2, decide_eq_false (by omega)]
    have : (List.range m.length).all (fun k => zCV (lt_ m k)) = true := List.all_eq_true.2 fun k hk => by simpa using h1 k (List.mem_range.1 hk)
    rw [this]; rfl
  ·refine zQ rfl H.cl (congrArg Value.bool (noB fun q => ?_))
   obtain ⟨_, _, _, _, _, q6, _⟩ := zB0.1 q
   have := neI h
   have := hcmp.2 q6
   omega
end Go.Proofs.YtggolnppckpdlaaGreat
