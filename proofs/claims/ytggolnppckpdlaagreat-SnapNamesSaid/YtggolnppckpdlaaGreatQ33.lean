/- Texts of ours, joined: the steps of the proof, or the claim's theorem. -/
import Derived.Test.YtggolnppckpdlaaGreatQ04
import Derived.Test.YtggolnppckpdlaaGreatQ09
import Derived.Test.YtggolnppckpdlaaGreatQ13
import Derived.Test.YtggolnppckpdlaaGreatQ19
import Derived.Test.YtggolnppckpdlaaGreatQ27
import Derived.Test.YtggolnppckpdlaaGreatQ29
import Derived.Test.YtggolnppckpdlaaGreatQ31
import Derived.Test.YtggolnppckpdlaaGreatQ32
set_option linter.unusedSimpArgs false
set_option linter.unusedVariables false
namespace Go.Proofs.YtggolnppckpdlaaGreat
open Go Go.Sk Go.RowKit
attribute [local irreducible] Go.Calls
def rulN (k : Nat) : ByteArray := [⟨#[110, 117, 109, 98, 101, 114, 115]⟩, ⟨#[97, 99, 99, 111, 117, 110, 116, 115]⟩, ⟨#[105, 110, 115, 116, 114, 117, 109, 101, 110, 116, 115]⟩, ⟨#[114, 111, 119, 115]⟩, ⟨#[111, 114, 100, 101, 114, 115]⟩, ⟨#[97, 117, 99, 116, 105, 111, 110, 115]⟩, ⟨#[104, 101, 108, 100]⟩].getD k ⟨#[]⟩
def rulG (k : Nat) : FuncId := [206, 207, 208, 209, 210, 211, 212].getD k 0
def rulE (k : Nat) : List Value := [.string (rulN k), .func (.func (rulG k)) #[] #[]]
theorem rul_sl {b : Nat} {T : TypeId} {fr : Nat × Nat} {F : Frag} (hm : (b, Obj.cells rulesC.toArray T fr) ∈ F) : SlB F 2 (some ⟨b, 0, none⟩) 7 b 0 rulesC T fr rulE := fun _ => ⟨rfl, hm, fun j hj => by
  match j, hj with
  | 0, _ => exact ⟨by decide, rfl⟩
  | 1, _ => exact ⟨by decide, rfl⟩
  | 2, _ => exact ⟨by decide, rfl⟩
  | 3, _ => exact ⟨by decide, rfl⟩
  | 4, _ => exact ⟨by decide, rfl⟩
  | 5, _ => exact ⟨by decide, rfl⟩
  | 6, _ => exact ⟨by decide, rfl⟩⟩
theorem rul_ent {k : Nat} (hk : k < 7) : Ent Tryz.prog (rulG k) := by
  match k, hk with
  | 0, _ => exact ent206
  | 1, _ => exact ent207
  | 2, _ => exact ent208
  | 3, _ => exact ent209
  | 4, _ => exact ent210
  | 5, _ => exact ent211
  | 6, _ => exact ent212
def checkF (ok : Nat → Bool) : ByteArray := if idx (fun k => !ok k) 7 < 0 then ⟨#[]⟩ else rulN (idx (fun k => !ok k) 7).toNat
theorem c_CheckIf {F : Frag} (s : Sta) (p : SPt) (ok : Nat → Bool) (hr : ∀ k, k < 7 → (∀ j, j < k → ok j = true) → ∀ w, Mem w F → Calls Tryz.prog (rulG k) [.agg (s.cells p).toArray].toArray w (Ret (.bool (ok k)) w)) (w0 : World) (hF : Mem w0 F) :
    Calls Tryz.prog 83 [.agg (s.cells p).toArray].toArray w0 (Ret (.string (checkF ok)) w0) := by
  refine enter [.tmp 2] Tryz.func83 rfl Tryz.ntmps83 rfl rfl ?_
  have H := St.start w0
  repeat' (first | refine y1 sg ?_ | refine y3 ?_ | (refine y9 H ?_; intro b w H) | (refine' y32 ent168 ?_ ?_; rotate_left; exact c_rules _; intro v M w hR hS; replace H := H.addR hS; clear hS; (try simp only [List.cons_append, List.nil_append] at H); obtain ⟨br, TR, fr, rfl, rfl⟩ := hR) | with_reducible apply OW.nil | with_reducible apply thn_n | with_reducible apply CW.seq | refine CW.region ?_ | with_reducible apply CW.block | fail)
  refine CW.loopI [(2, 2), (4, 4), (7, 18)] (fun k : Nat => [(7, .int .i64 (k : Int))]) (fun k w => k ≤ 7 ∧ (∀ j, j < k → (!ok j) = false) ∧ St w0 [cb _ (s.cells p) 29, (br, Obj.cells rulesC.toArray TR fr)] w) (fun k => 7 - k) 0 ⟨rfl, trivial⟩ ⟨Nat.zero_le _, fun j hj => absurd hj (Nat.not_lt_zero _), H⟩ ?_
  clear H
  rintro k gh w ⟨hk, hn, H⟩
  have hs1 := fun {F : Frag} (hm : (br, Obj.cells rulesC.toArray TR fr) ∈ F) => rul_sl hm
  repeat' (first | refine y1 sg ?_ | with_reducible apply OW.nil | with_reducible apply thn_n | with_reducible apply CW.seq | refine CW.region ?_ | fail)
  refine CW.cond rfl (fun h => ?_) (fun h => ?_)
  · have hlt : k < 7 := by have := of_decide_eq_true h; omega
    clear h
    obtain ⟨okk, hok⟩ : ∃ b, ok k = b := ⟨_, rfl⟩
    have hrk := hr k hlt fun j hj => by have := hn j hj; simpa using this
    rw [hok] at hrk
    repeat' (first | refine y1 sg ?_ | refine y3 ?_ | refine y7 sg H ?_ | (refine y10 sg H ?_; intro b w H) | (refine y11 sg H ?_; intro w H) | (refine y40 sg (hs1 (List.Mem.head [])) ?_ ?_ ?_; (omega); (omega)) | (refine OX.val rfl rfl (Yq.loadB sg (hs1 (by first | exact List.Mem.head _ | exact List.Mem.tail _ (List.Mem.head _))) H.mem rfl rfl rfl rfl rfl hlt) ?_) | (refine OX.call rfl rfl (En.cloV (rul_ent hlt) rfl rfl rfl) (hrk _ (H.memF hF)) ?_; intro w hcl; replace H := H.ext hcl; clear hcl) | with_reducible apply OW.nil | with_reducible apply thn_n | with_reducible apply CW.seq | refine CW.region ?_ | with_reducible apply CW.block | with_reducible apply CW.ret | with_reducible apply CW.skip | with_reducible apply thn_r | with_reducible apply blk_r | (refine y23 ?_ ?_; all_goals intro h) | fail)
    all_goals rw [← hok] at h
    all_goals first
      | exact ret1 rfl H.cl (congrArg Value.string (by unfold checkF; rw [idx_hit hlt hn h, if_neg (by omega), Int.toNat_natCast]))
      | (refine Again.mk (k + 1) rfl ⟨vsucc (by omega), trivial⟩ ⟨hlt, fun j hj => ?_, H.sub (List.sublist_cons_self _ _)⟩ (by omega)
         rcases (show j < k ∨ j = k by omega) with g | rfl
         · exact hn j g
         · exact h)
      | fail
  · obtain rfl : k = 7 := by have := of_decide_eq_false h; omega
    repeat' (first | refine y1 sg ?_ | with_reducible apply OW.nil | with_reducible apply thn_n | with_reducible apply CW.seq | refine CW.region ?_ | with_reducible apply CW.ret | with_reducible apply CW.exit | with_reducible apply thn_e | refine y24 ?_ | fail)
    exact ret1 rfl H.cl (congrArg Value.string (by unfold checkF; rw [idx_miss hn]; rfl))
end Go.Proofs.YtggolnppckpdlaaGreat
set_option linter.unusedSimpArgs false
set_option linter.unusedVariables false
namespace Go.Proofs.YtggolnppckpdlaaGreat
open Go Go.Sk Go.RowKit
attribute [local irreducible] Go.Calls
def stOk (s : Sta) (k : Nat) : Bool := [numsF s, acctsF s.accts, instsF s.insts, rowsSt s, ordersSt s, aucsSt s, stHeld s].getD k true
structure StaW (s : Sta) : Prop where
  ac : s.accts.length ≤ 10000
  acN : ∀ k, k < s.accts.length → (ac_ s.accts k).name.size ≤ 140737488355328
  ins : s.insts.length ≤ 10000
  insN : ∀ k, k < s.insts.length → (in_ s.insts k).name.size ≤ 140737488355328
  rw : ∀ j, j < s.rows.length → (rw_ s.rows j).wf
theorem c_Check {F : Frag} (s : Sta) (p : SPt) (hW : StaW s) (w0 : World) (hF : Mem w0 F) (hs : StaM F s p) :
    Calls Tryz.prog 83 [.agg (s.cells p).toArray].toArray w0 (Ret (.string (checkF (stOk s))) w0) := by
  refine c_CheckIf s p (stOk s) (fun k hk hj w hM => ?_) w0 hF
  match k, hk with
  | 0, _ => exact c_numbers s p w
  | 1, _ => exact c_accounts s p hW.ac hW.acN w hM hs
  | 2, _ => exact c_instruments s p hW.ins hW.insN w hM hs
  | 3, _ => exact c_rows s p hW.rw w hM hs
  | 4, _ => exact c_orders s p (hj 2 (by omega)) w hM hs
  | 5, _ => exact c_auctions s p w hM hs
  | 6, _ => exact c_held s p w hM hs
def mayS (s : Sta) : Bool := (List.range 7).all (stOk s)
theorem checkF_empty (ok : Nat → Bool) : ((checkF ok).toList == (ByteArray.mk #[]).toList) = (List.range 7).all ok := by
  rcases idx_cases (fun k => !ok k) 7 with ⟨k, hk, _, hp, h2⟩ | ⟨h1, h2⟩
  · unfold checkF
    rw [h2, if_neg (by omega), Int.toNat_natCast]
    have hf : (List.range 7).all ok = false := List.all_eq_false.2 ⟨k, List.mem_range.2 hk, by simpa using hp⟩
    rw [hf]
    match k, hk with
    | 0, _ => rw [ByteArray.toList_eq, ByteArray.toList_eq]; decide
    | 1, _ => rw [ByteArray.toList_eq, ByteArray.toList_eq]; decide
    | 2, _ => rw [ByteArray.toList_eq, ByteArray.toList_eq]; decide
    | 3, _ => rw [ByteArray.toList_eq, ByteArray.toList_eq]; decide
    | 4, _ => rw [ByteArray.toList_eq, ByteArray.toList_eq]; decide
    | 5, _ => rw [ByteArray.toList_eq, ByteArray.toList_eq]; decide
    | 6, _ => rw [ByteArray.toList_eq, ByteArray.toList_eq]; decide
  · unfold checkF
    rw [h2, if_pos (by omega)]
    have hf : (List.range 7).all ok = true := List.all_eq_true.2 fun k hk => by have := h1 k (List.mem_range.1 hk); simpa using this
    rw [hf, ByteArray.toList_eq]; decide
theorem c_MaySt {F : Frag} (s : Sta) (p : SPt) (hW : StaW s) (w0 : World) (hF : Mem w0 F) (hs : StaM F s p) :
    Calls Tryz.prog 32 [.agg (s.cells p).toArray].toArray w0 (Ret (.bool (mayS s)) w0) := by
  have hc := fun w hM => c_Check s p hW w hM hs
  have he := checkF_empty (stOk s)
  obtain ⟨c, hcc⟩ : ∃ c, checkF (stOk s) = c := ⟨_, rfl⟩
  rw [hcc] at hc he
  refine enter [.tmp 2] Tryz.func32 rfl Tryz.ntmps32 rfl rfl ?_
  have H := St.start w0
  repeat' (first | refine y1 sg ?_ | refine y3 ?_ | refine y7 sg H ?_ | (refine y9 H ?_; intro b w H) | (refine' y30 ent83 ?_ ?_; rotate_left; exact hc _ (H.memF hF); intro w hcl; replace H := H.ext hcl; clear hcl) | with_reducible apply OW.nil | with_reducible apply thn_n | with_reducible apply CW.seq | refine CW.region ?_ | with_reducible apply CW.ret | fail)
  all_goals exact ret1 rfl H.cl (congrArg Value.bool he)
end Go.Proofs.YtggolnppckpdlaaGreat
set_option linter.unusedSimpArgs false
set_option linter.unusedVariables false
namespace Go.Proofs.YtggolnppckpdlaaGreat
open Go Go.Sk Go.RowKit
attribute [local irreducible] Go.Calls
theorem c_obetwI (n m : Int) (w : World) : Calls Tryz.prog 216 [.int .i64 n, .int .i64 m].toArray w (Ret (.bool (rangeF n 1 m)) w) := by
  refine enter [.tmp 4] Tryz.func216 rfl Tryz.ntmps216 rfl rfl ?_
  have H := St.start w
  repeat' (first | refine y1 sg ?_ | refine y5 sg ?_ | refine y13 ?_ | refine y14 ?_ | (refine y17 ?_ ?_; all_goals intro h) | with_reducible apply OW.nil | with_reducible apply thn_n | with_reducible apply CW.seq | refine CW.region ?_ | with_reducible apply CW.ret | fail)
  all_goals simp only [decide_eq_true_eq, decide_eq_false_iff_not, ge_iff_le] at *
  all_goals exact ret1 rfl H.cl (congrArg Value.bool (by unfold rangeF; simp only [*, decide_true, decide_false, Bool.true_and, Bool.and_true, Bool.false_and, Bool.and_false]))
theorem c_obetw64 (n m : Int) (w : World) : Calls Tryz.prog 217 [.int .i64 n, .int .i64 m].toArray w (Ret (.bool (rangeF n 1 m)) w) := by
  refine enter [.tmp 4] Tryz.func217 rfl Tryz.ntmps217 rfl rfl ?_
  have H := St.start w
  repeat' (first | refine y1 sg ?_ | refine y5 sg ?_ | refine y13 ?_ | refine y14 ?_ | (refine y17 ?_ ?_; all_goals intro h) | with_reducible apply OW.nil | with_reducible apply thn_n | with_reducible apply CW.seq | refine CW.region ?_ | with_reducible apply CW.ret | fail)
  all_goals simp only [decide_eq_true_eq, decide_eq_false_iff_not, ge_iff_le] at *
  all_goals exact ret1 rfl H.cl (congrArg Value.bool (by unfold rangeF; simp only [*, decide_true, decide_false, Bool.true_and, Bool.and_true, Bool.false_and, Bool.and_false]))
def opnMay (o : Opn) : Bool := rangeF o.acct 1 64 && (rangeF o.id 1 1099511627776 && (rangeF o.inst 1 16 && ((o.side == 1 || o.side == 2) && (rangeF o.price 1 1073741824 && rangeF o.left 1 1048576))))
def ltMay (l : Lt) : Bool := rangeF l.id 1 1099511627776 && (rangeF l.seller 1 64 && (rangeF l.inst 1 16 && rangeF l.qty 1 1048576))
set_option maxHeartbeats 2000000 in
theorem c_opnMay (o : Opn) (w : World) : Calls Tryz.prog 173 [.agg o.cells.toArray].toArray w (Ret (.bool (opnMay o)) w) := by
  refine enter [.tmp 2] Tryz.func173 rfl Tryz.ntmps173 rfl rfl ?_
  have H := St.start w
  repeat' (first | refine y1 sg ?_ | refine y3 ?_ | refine y5 sg ?_ | refine y7 sg H ?_ | (refine y9 H ?_; intro b w H) | (refine' y30 ent216 ?_ ?_; rotate_left; exact c_obetwI _ _ _; intro w hcl; replace H := H.ext hcl; clear hcl) | (refine' y30 ent217 ?_ ?_; rotate_left; exact c_obetw64 _ _ _; intro w hcl; replace H := H.ext hcl; clear hcl) | refine y13 ?_ | refine y14 ?_ | (refine y17 ?_ ?_; all_goals intro h) | with_reducible apply OW.nil | with_reducible apply thn_n | with_reducible apply CW.seq | refine CW.region ?_ | with_reducible apply CW.ret | fail)
  all_goals exact ret1 rfl H.cl (congrArg Value.bool (by unfold opnMay; simp only [*, Bool.true_and, Bool.and_true, Bool.false_and, Bool.and_false, Bool.true_or, Bool.or_true, Bool.false_or, Bool.or_false]))
theorem c_ltMay (l : Lt) (w : World) : Calls Tryz.prog 178 [.agg l.cells.toArray].toArray w (Ret (.bool (ltMay l)) w) := by
  refine enter [.tmp 2] Tryz.func178 rfl Tryz.ntmps178 rfl rfl ?_
  have H := St.start w
  repeat' (first | refine y1 sg ?_ | refine y3 ?_ | refine y5 sg ?_ | refine y7 sg H ?_ | (refine y9 H ?_; intro b w H) | (refine' y30 ent216 ?_ ?_; rotate_left; exact c_obetwI _ _ _; intro w hcl; replace H := H.ext hcl; clear hcl) | (refine' y30 ent217 ?_ ?_; rotate_left; exact c_obetw64 _ _ _; intro w hcl; replace H := H.ext hcl; clear hcl) | refine y13 ?_ | refine y14 ?_ | (refine y17 ?_ ?_; all_goals intro h) | with_reducible apply OW.nil | with_reducible apply thn_n | with_reducible apply CW.seq | refine CW.region ?_ | with_reducible apply CW.ret | fail)
  all_goals exact ret1 rfl H.cl (congrArg Value.bool (by unfold ltMay; simp only [*, Bool.true_and, Bool.and_true, Bool.false_and, Bool.and_false]))
theorem c_oMay1 (l : Lt) (w : World) : Calls Tryz.prog 177 [.agg l.cells.toArray].toArray w (Ret (.bool (!ltMay l)) w) := by
  refine enter [.tmp 2] Tryz.func177 rfl Tryz.ntmps177 rfl rfl ?_
  have H := St.start w
  repeat' (first | refine y1 sg ?_ | refine y3 ?_ | refine y7 sg H ?_ | (refine y9 H ?_; intro b w H) | (refine' y30 ent178 ?_ ?_; rotate_left; exact c_ltMay l _; intro w hcl; replace H := H.ext hcl; clear hcl) | with_reducible apply OW.nil | with_reducible apply thn_n | with_reducible apply CW.seq | refine CW.region ?_ | with_reducible apply CW.ret | fail)
  all_goals exact ret1 rfl H.cl rfl
def cmpO (a b : Opn) : Int := cmpP a.acct a.id b.acct b.id
set_option maxHeartbeats 2000000 in
theorem c_orow (a b : Opn) (w0 : World) : Calls Tryz.prog 170 [.agg a.cells.toArray, .agg b.cells.toArray].toArray w0 (Ret (.int .i64 (cmpO a b)) w0) := by
  refine enter [.tmp 4] Tryz.func170 rfl Tryz.ntmps170 rfl rfl ?_
  have H := St.start w0
  repeat' (first | refine y1 sg ?_ | refine y2 sg ?_ | refine y3 ?_ | refine y4 ?_ | refine y8 sg H ?_ | (refine y9 H ?_; intro b w H) | refine y12 ?_ | (refine CW.regionR mixed ?_; intro w hcl; replace H := H.ext hcl; clear hcl; (with_reducible apply RW.quiet 10); exact rfl; decide +kernel; simp only [List.append_eq, List.cons_append, List.nil_append, List.take_succ_cons, List.take_zero, List.drop_zero]) | (refine' y31 ent214 ?_ ?_; rotate_left; exact (fun _ hcl => c_CompareI _ _ _)) | (refine' y31 ent215 ?_ ?_; rotate_left; exact (fun _ hcl => c_Compare _ _ _)) | ((with_reducible apply OX.buildS sg H); exact rfl; exact rfl; exact rfl; exact rfl; exact rfl; exact rfl; exact rfl; exact rfl; exact rfl; exact rfl; intro b w H _) | (refine' y30 ent213 ?_ ?_; rotate_left; exact c_Or2 _ _ _ (H.mem) (List.Mem.head _); intro w hcl; replace H := H.ext hcl; clear hcl) | with_reducible apply OW.nil | (with_reducible apply QW.nil; intro w hcl; replace H := H.ext hcl; clear hcl) | refine y19 ?_ | with_reducible apply thn_n | with_reducible apply CW.seq | refine CW.region ?_ | with_reducible apply CW.ret | fail)
  exact ret1 rfl H.cl rfl
def cmpT (a b : Lt) : Int := cmpI a.id b.id
theorem c_obyID (a b : Lt) (w0 : World) : Calls Tryz.prog 172 [.agg a.cells.toArray, .agg b.cells.toArray].toArray w0 (Ret (.int .i64 (cmpT a b)) w0) := by
  refine enter [.tmp 4] Tryz.func172 rfl Tryz.ntmps172 rfl rfl ?_
  have H := St.start w0
  repeat' (first | refine y1 sg ?_ | refine y3 ?_ | refine y7 sg H ?_ | (refine y9 H ?_; intro b w H) | (refine' y30 ent215 ?_ ?_; rotate_left; exact c_Compare _ _ _; intro w hcl; replace H := H.ext hcl; clear hcl) | with_reducible apply OW.nil | with_reducible apply thn_n | with_reducible apply CW.seq | refine CW.region ?_ | with_reducible apply CW.ret | fail)
  exact ret1 rfl H.cl rfl
def riseO (l : List Opn) : Bool := (List.range l.length).all fun k => k == 0 || decide (cmpO (op_ l (k - 1)) (op_ l k) < 0)
theorem riseO_iff {l : List Opn} : riseO l = true ↔ ∀ k, k < l.length → 0 < k → cmpO (op_ l (k - 1)) (op_ l k) < 0 := by
  unfold riseO
  rw [List.all_eq_true]
  simp only [List.mem_range, Bool.or_eq_true, beq_iff_eq, decide_eq_true_eq]
  constructor
  · intro h k hk h0
    exact (h k hk).resolve_left (by omega)
  · intro h k hk
    rcases Nat.eq_zero_or_pos k with g | g
    · exact .inl g
    · exact .inr (h k hk g)
theorem c_riseO {F : Frag} {a : Option Addr} {cap : Nat} (l : List Opn) (w0 : World) (hF : Mem w0 F) (hs : SlA F 6 a l.length cap (opl l)) :
    Calls Tryz.prog 169 [.slice a l.length cap, .func (.func 170) #[] #[]].toArray w0 (Ret (.bool (riseO l)) w0) := by
  obtain ⟨hnc, hcb, b0, off, cs, T, fr, hs⟩ := hs
  refine enter [.tmp 4] Tryz.func169 rfl Tryz.ntmps169 rfl rfl ?_
  have H := St.start w0
  repeat' (first | refine y1 sg ?_ | with_reducible apply OW.nil | with_reducible apply thn_n | with_reducible apply CW.seq | refine CW.region ?_ | with_reducible apply CW.block | fail)
  refine CW.loopI [(4, 23)] (fun j : Nat => [(5, .int .i64 ((j + 1 : Nat) : Int))]) (fun j w => j ≤ l.length ∧ (∀ i, i < l.length → 0 < i → i < j + 1 → cmpO (op_ l (i - 1)) (op_ l i) < 0) ∧ St w0 [] w) (fun j => l.length - j) 0 ⟨rfl, trivial⟩ ⟨Nat.zero_le _, fun i _ h1 h2 => absurd h1 (by omega), H⟩ ?_
  clear H
  rintro j gh w ⟨hj, hP, H⟩
  repeat' (first | refine y1 sg ?_ | with_reducible apply OW.nil | with_reducible apply thn_n | with_reducible apply CW.seq | refine CW.region ?_ | fail)
  refine CW.cond rfl (fun h => ?_) (fun h => ?_)
  · have hlt : j + 1 < l.length := by have := of_decide_eq_true h; omega
    clear h
    repeat' (first | refine y2 sg ?_ | refine y4 ?_ | (refine y41 sg (hs) ?_ ?_ ?_; (first | omega | (rw [w64 (by omega) (by omega)]; omega)); (first | omega | (rw [w64 (by omega) (by omega)]; omega))) | (refine y43 sg (hs) ((H.memF hF)) ?_ ?_; (omega)) | (refine' y35 ent170 ?_ ?_; rotate_left; exact (fun _ hcl => c_orow (op_ l j) (op_ l (j + 1)) _)) | (with_reducible apply QW.nil; intro w hcl; replace H := H.ext hcl; clear hcl) | with_reducible apply thn_n | with_reducible apply CW.seq | refine y20 mixed ?_ | with_reducible apply CW.block | with_reducible apply CW.skip | fail)
    refine CW.cond rfl (fun h => ?_) (fun h => ?_)
    · have hge := of_decide_eq_true h
      repeat' (first | refine y1 sg ?_ | with_reducible apply OW.nil | with_reducible apply thn_n | with_reducible apply CW.seq | refine CW.region ?_ | with_reducible apply CW.ret | with_reducible apply thn_r | with_reducible apply blk_r | fail)
      refine ret1 rfl H.cl (congrArg Value.bool (noB fun q => ?_))
      have := riseO_iff.1 q (j + 1) hlt (by omega)
      simp only [Nat.add_sub_cancel] at this
      omega
    · have hlt2 := of_decide_eq_false h
      repeat' (first | refine y1 sg ?_ | with_reducible apply OW.nil | with_reducible apply thn_n | refine CW.region ?_ | with_reducible apply CW.skip | fail)
      refine Again.mk (j + 1) rfl ⟨vsucc (by omega), trivial⟩ ⟨by omega, fun i h1 h2 h3 => ?_, H⟩ (by omega)
      rcases (show i < j + 1 ∨ i = j + 1 by omega) with g | rfl
      · exact hP i h1 h2 g
      · simp only [Nat.add_sub_cancel]; omega
  · have hge : l.length ≤ j + 1 := by have := of_decide_eq_false h; omega
    repeat' (first | refine y1 sg ?_ | with_reducible apply OW.nil | with_reducible apply thn_n | with_reducible apply CW.seq | refine CW.region ?_ | with_reducible apply CW.ret | with_reducible apply CW.exit | with_reducible apply thn_e | refine y24 ?_ | fail)
    exact ret1 rfl H.cl (congrArg Value.bool (riseO_iff.2 fun i h1 h2 => hP i h1 h2 (by omega)).symm)
def riseL (l : List Lt) : Bool := (List.range l.length).all fun k => k == 0 || decide (cmpT (lt_ l (k - 1)) (lt_ l k) < 0)
theorem riseL_iff {l : List Lt} : riseL l = true ↔ ∀ k, k < l.length → 0 < k → cmpT (lt_ l (k - 1)) (lt_ l k) < 0 := by
  unfold riseL
  rw [List.all_eq_true]
  simp only [List.mem_range, Bool.or_eq_true, beq_iff_eq, decide_eq_true_eq]
  constructor
  · intro h k hk h0
    exact (h k hk).resolve_left (by omega)
  · intro h k hk
    rcases Nat.eq_zero_or_pos k with g | g
    · exact .inl g
    · exact .inr (h k hk g)
theorem c_riseL {F : Frag} {a : Option Addr} {cap : Nat} (l : List Lt) (w0 : World) (hF : Mem w0 F) (hs : SlA F 4 a l.length cap (ltl l)) :
    Calls Tryz.prog 171 [.slice a l.length cap, .func (.func 172) #[] #[]].toArray w0 (Ret (.bool (riseL l)) w0) := by
  obtain ⟨hnc, hcb, b0, off, cs, T, fr, hs⟩ := hs
  refine enter [.tmp 4] Tryz.func171 rfl Tryz.ntmps171 rfl rfl ?_
  have H := St.start w0
  repeat' (first | refine y1 sg ?_ | with_reducible apply OW.nil | with_reducible apply thn_n | with_reducible apply CW.seq | refine CW.region ?_ | with_reducible apply CW.block | fail)
  refine CW.loopI [(4, 23)] (fun j : Nat => [(5, .int .i64 ((j + 1 : Nat) : Int))]) (fun j w => j ≤ l.length ∧ (∀ i, i < l.length → 0 < i → i < j + 1 → cmpT (lt_ l (i - 1)) (lt_ l i) < 0) ∧ St w0 [] w) (fun j => l.length - j) 0 ⟨rfl, trivial⟩ ⟨Nat.zero_le _, fun i _ h1 h2 => absurd h1 (by omega), H⟩ ?_
  clear H
  rintro j gh w ⟨hj, hP, H⟩
  repeat' (first | refine y1 sg ?_ | with_reducible apply OW.nil | with_reducible apply thn_n | with_reducible apply CW.seq | refine CW.region ?_ | fail)
  refine CW.cond rfl (fun h => ?_) (fun h => ?_)
  · have hlt : j + 1 < l.length := by have := of_decide_eq_true h; omega
    clear h
    repeat' (first | refine y2 sg ?_ | refine y4 ?_ | (refine y41 sg (hs) ?_ ?_ ?_; (first | omega | (rw [w64 (by omega) (by omega)]; omega)); (first | omega | (rw [w64 (by omega) (by omega)]; omega))) | (refine y43 sg (hs) ((H.memF hF)) ?_ ?_; (omega)) | (refine' y35 ent172 ?_ ?_; rotate_left; exact (fun _ hcl => c_obyID (lt_ l j) (lt_ l (j + 1)) _)) | (with_reducible apply QW.nil; intro w hcl; replace H := H.ext hcl; clear hcl) | with_reducible apply thn_n | with_reducible apply CW.seq | refine y20 mixed ?_ | with_reducible apply CW.block | with_reducible apply CW.skip | fail)
    refine CW.cond rfl (fun h => ?_) (fun h => ?_)
    · have hge := of_decide_eq_true h
      repeat' (first | refine y1 sg ?_ | with_reducible apply OW.nil | with_reducible apply thn_n | with_reducible apply CW.seq | refine CW.region ?_ | with_reducible apply CW.ret | with_reducible apply thn_r | with_reducible apply blk_r | fail)
      refine ret1 rfl H.cl (congrArg Value.bool (noB fun q => ?_))
      have := riseL_iff.1 q (j + 1) hlt (by omega)
      simp only [Nat.add_sub_cancel] at this
      omega
    · have hlt2 := of_decide_eq_false h
      repeat' (first | refine y1 sg ?_ | with_reducible apply OW.nil | with_reducible apply thn_n | refine CW.region ?_ | with_reducible apply CW.skip | fail)
      refine Again.mk (j + 1) rfl ⟨vsucc (by omega), trivial⟩ ⟨by omega, fun i h1 h2 h3 => ?_, H⟩ (by omega)
      rcases (show i < j + 1 ∨ i = j + 1 by omega) with g | rfl
      · exact hP i h1 h2 g
      · simp only [Nat.add_sub_cancel]; omega
  · have hge : l.length ≤ j + 1 := by have := of_decide_eq_false h; omega
    repeat' (first | refine y1 sg ?_ | with_reducible apply OW.nil | with_reducible apply thn_n | with_reducible apply CW.seq | refine CW.region ?_ | with_reducible apply CW.ret | with_reducible apply CW.exit | with_reducible apply thn_e | refine y24 ?_ | fail)
    exact ret1 rfl H.cl (congrArg Value.bool (riseL_iff.2 fun i h1 h2 => hP i h1 h2 (by omega)).symm)
end Go.Proofs.YtggolnppckpdlaaGreat
set_option linter.unusedSimpArgs false
set_option linter.unusedVariables false
namespace Go.Proofs.YtggolnppckpdlaaGreat
open Go Go.Sk Go.RowKit
attribute [local irreducible] Go.Calls
def opnsF (l : List Opn) (m : List Lt) : Bool := decide (l.length ≤ 128) && (decide (m.length ≤ 32) && (riseO l && (riseL m && ((List.range l.length).all (fun k => opnMay (op_ l k)) && (decide (l.map (·.id)).Nodup && (List.range m.length).all (fun k => ltMay (lt_ m k)))))))
theorem opnsF_iff {l : List Opn} {m : List Lt} : opnsF l m = true ↔ l.length ≤ 128 ∧ m.length ≤ 32 ∧ riseO l = true ∧ riseL m = true ∧ (∀ k, k < l.length → opnMay (op_ l k) = true) ∧ (l.map (·.id)).Nodup ∧ (∀ k, k < m.length → ltMay (lt_ m k) = true) := by
  unfold opnsF
  simp only [Bool.and_eq_true, decide_eq_true_eq, List.all_eq_true, List.mem_range]
set_option maxHeartbeats 4000000 in
theorem c_oMay {F : Frag} {a a2 : Option Addr} {cap cap2 : Nat} (l : List Opn) (m : List Lt) (w0 : World) (hF : Mem w0 F) (hs : SlA F 6 a l.length cap (opl l)) (ht : SlA F 4 a2 m.length cap2 (ltl m)) :
    Calls Tryz.prog 84 [.slice a l.length cap, .slice a2 m.length cap2].toArray w0 (Ret (.bool (opnsF l m)) w0) := by
  have hs0 := hs
  obtain ⟨hnc, hcb, b0, off, cs, T, fr, hs⟩ := hs
  refine enter [.tmp 4] Tryz.func84 rfl Tryz.ntmps84 rfl rfl ?_
  have H := St.start w0
  repeat' (first | refine y1 sg ?_ | refine y5 sg ?_ | (refine' y30 ent169 ?_ ?_; rotate_left; exact c_riseO l _ (H.memF hF) hs0; intro w hcl; replace H := H.ext hcl; clear hcl) | (refine' y30 ent171 ?_ ?_; rotate_left; exact c_riseL m _ (H.memF hF) ht; intro w hcl; replace H := H.ext hcl; clear hcl) | refine y13 ?_ | refine y14 ?_ | (refine y17 ?_ ?_; all_goals intro h) | with_reducible apply OW.nil | with_reducible apply thn_n | with_reducible apply CW.seq | refine CW.region ?_ | with_reducible apply CW.ret | with_reducible apply thn_r | refine y21 ?_ | fail)
  all_goals first
    | (simp only [decide_eq_true_eq, decide_eq_false_iff_not, Bool.not_eq_true'] at *
       exact ret1 rfl H.cl (congrArg Value.bool (noB fun q => by
        obtain ⟨q1, q2, q3, q4, _⟩ := opnsF_iff.1 q
        first | omega | (cases q3.symm.trans ‹riseO l = false›) | (cases q4.symm.trans ‹riseL m = false›))))
    | skip
  rename_i hl1 hl2 _
  have hlen1 : l.length ≤ 128 := by have := of_decide_eq_false hl1; omega
  have hlen2 : m.length ≤ 32 := by have := of_decide_eq_false hl2; omega
  have hrO : riseO l = true := by simpa using h
  clear hl1 hl2 h
  refine CW.cond rfl (fun h => ?_) (fun h => ?_)
  · have hbad : riseL m = false := by simpa using h
    repeat' (first | refine y1 sg ?_ | with_reducible apply OW.nil | with_reducible apply thn_n | with_reducible apply CW.seq | refine CW.region ?_ | with_reducible apply CW.ret | with_reducible apply thn_r | fail)
    exact ret1 rfl H.cl (congrArg Value.bool (noB fun q => by
      obtain ⟨_, _, _, q4, _⟩ := opnsF_iff.1 q
      cases q4.symm.trans hbad))
  have hrL : riseL m = true := by simpa using h
  clear h
  repeat' (first | refine y1 sg ?_ | with_reducible apply OW.nil | with_reducible apply thn_n | with_reducible apply CW.seq | refine CW.region ?_ | with_reducible apply CW.block | with_reducible apply CW.skip | fail)
  refine CW.loopI [(4, 5), (7, 7), (28, 40)] (fun x : Gr => [(28, .int .i64 (x.k : Int)), (5, .slice x.a x.k x.cap)]) (fun x w => x.k ≤ l.length ∧ (∀ j, j < x.k → opnMay (op_ l j) = true) ∧ Go.Sk.Own x.M 2 1 x.a x.k x.cap ((l.take x.k).map fun y => Value.int .i64 y.id) ∧ St w0 (x.M ++ []) w) (fun x => l.length - x.k) ⟨0, none, 0, []⟩ ⟨rfl, rfl, trivial⟩ ⟨Nat.zero_le _, fun j hj => absurd hj (Nat.not_lt_zero _), Go.Sk.Own.nil _ _ _, H⟩ ?_
  clear H
  rintro ⟨k, ao, co, M⟩ gh w ⟨hk, hr, hO, H⟩
  simp only at hk hr hO H ⊢
  repeat' (first | refine y1 sg ?_ | with_reducible apply OW.nil | with_reducible apply thn_n | with_reducible apply CW.seq | refine CW.region ?_ | fail)
  refine CW.cond rfl (fun h => ?_) (fun h => ?_)
  · have hlt : k < l.length := by have := of_decide_eq_true h; omega
    clear h
    repeat' (first | refine y1 sg ?_ | refine y3 ?_ | refine y7 sg H ?_ | (refine y10 sg H ?_; intro b w H) | (refine y11 sg H ?_; intro w H) | (refine y40 sg (hs) ?_ ?_ ?_; (omega); (omega)) | (refine y42 sg (hs) ((H.memF hF)) ?_ ?_; (omega)) | (refine' y30 ent173 ?_ ?_; rotate_left; exact c_opnMay (op_ l k) _; intro w hcl; replace H := H.ext hcl; clear hcl) | with_reducible apply OW.nil | with_reducible apply thn_n | with_reducible apply CW.seq | refine CW.region ?_ | with_reducible apply CW.block | with_reducible apply CW.skip | fail)
    refine CW.cond rfl (fun h => ?_) (fun h => ?_)
    · have hbad : opnMay (op_ l k) = false := by simpa using h
      repeat' (first | refine y1 sg ?_ | with_reducible apply OW.nil | with_reducible apply thn_n | with_reducible apply CW.seq | refine CW.region ?_ | with_reducible apply CW.ret | with_reducible apply thn_r | with_reducible apply blk_r | fail)
      exact ret1 rfl H.cl (congrArg Value.bool (noB fun q => by
        obtain ⟨_, _, _, _, q5, _⟩ := opnsF_iff.1 q
        cases (q5 k hlt).symm.trans hbad))
    · have hok : opnMay (op_ l k) = true := by simpa using h
      clear h
      repeat' (first | refine y1 sg ?_ | refine y3 ?_ | refine y7 sg H ?_ | ((with_reducible apply OX.buildS sg H); exact rfl; exact rfl; exact rfl; exact rfl; exact rfl; exact rfl; exact rfl; exact rfl; exact rfl; exact rfl; intro b w H _) | (have hp := H.perm (perm2 M []); refine OX.append sg 1 8 (M := M) hp rfl rfl rfl rfl rfl rfl rfl rfl rfl rfl rfl hO (Src.whole hp.mem (List.mem_append_right _ (List.Mem.head _))) rfl (oneAll rfl) (by unfold maxLen; omega) (by omega) ?_; clear hp hO; intro ao co M w hO H; replace H := H.perm (perm2 M []).symm) | with_reducible apply OW.nil | with_reducible apply thn_n | refine CW.region ?_ | with_reducible apply CW.skip | fail)
      exact Again.mk ⟨k + 1, ao, co, M⟩ rfl ⟨vsucc (by omega), rfl, trivial⟩ ⟨hlt, fun j hj => by
        rcases (show j < k ∨ j = k by have : j < k + 1 := hj; omega) with g | rfl
        · exact hr j g
        · exact hok, by show Go.Sk.Own M _ 1 ao (k + 1) co _; rw [← map_snoc (fun y : Opn => Value.int .i64 y.id) l default hlt]; exact hO, (H.sub (List.sublist_cons_self _ _)).sub (List.sublist_cons_self _ _)⟩ (by show l.length - (k + 1) < l.length - k; omega)
  · obtain rfl : k = l.length := by have := of_decide_eq_false h; omega
    clear h
    rw [List.take_length] at hO
    have hln : (l.map (·.id)).length = l.length := by simp
    have hO2 : Go.Sk.Own M 2 1 ao (l.map (·.id)).length co ((l.map (·.id)).map (Value.int .i64)) := by rw [hln]; simpa [Function.comp_def] using hO
    have hcmp := compact_int (l.map (·.id))
    obtain ⟨S, hS⟩ : ∃ S, ((l.map (·.id)).mergeSort fun x y => decide (x ≤ y)) = S := ⟨_, rfl⟩
    have hSl : S.length = (l.map (·.id)).length := by rw [← hS]; exact (List.mergeSort_perm _ _).length_eq
    have hso := fun {w : World} => c_SortI (w0 := w0) (w := w) (M := M) (G := []) (a := ao) (cap := co) (l.map (·.id)) (by omega)
    rw [hS] at hcmp hso
    rw [hln] at hcmp hso hSl hO2
    have hall : (List.range l.length).all (fun k => opnMay (op_ l k)) = true := List.all_eq_true.2 fun k hk => hr k (List.mem_range.1 hk)
    repeat' (first | refine y1 sg ?_ | refine y3 ?_ | (refine' y33 ent174 ?_ ?_; rotate_left 2; exact hso H hO2; rintro v N w ⟨rfl, M, rfl, hO⟩ H) | with_reducible apply OW.nil | with_reducible apply thn_n | with_reducible apply CW.seq | refine CW.region ?_ | with_reducible apply CW.exit | with_reducible apply thn_e | refine y24 ?_ | fail)
    rw [← hSl] at hO
    have hco := fun {w : World} => c_CompI (w0 := w0) (w := w) (M := M) (G := []) (a := ao) (cap := co) S (by omega)
    rw [hSl] at hco hO
    repeat' (first | refine y1 sg ?_ | refine y5 sg ?_ | (refine' y33 ent175 ?_ ?_; rotate_left 2; exact hco H hO; rintro v N w ⟨rfl, a4, c4, rfl⟩ H) | (refine' y30 ent176 ?_ ?_; rotate_left; exact c_ContainsLot (caps := []) (fun j => !ltMay (lt_ m j)) _ (H.memF hF) ht ent177 (fun j hj w' _ => c_oMay1 (lt_ m j) w'); intro w hcl; replace H := H.ext hcl; clear hcl) | refine y13 ?_ | refine y14 ?_ | (refine y17 ?_ ?_; all_goals intro h) | with_reducible apply OW.nil | with_reducible apply thn_n | with_reducible apply CW.ret | fail)
    · have hnd : (l.map (·.id)).Nodup := hcmp.1 (by have := eqI h; omega)
      refine ret1 rfl H.cl (congrArg Value.bool ?_)
      unfold opnsF
      rw [hall, hrO, hrL, decide_eq_true hlen1, decide_eq_true hlen2, decide_eq_true hnd]
      simp only [Bool.true_and]
      rcases idx_cases (fun j => !ltMay (lt_ m j)) m.length with ⟨j, hj, _, hp, h2⟩ | ⟨h1, h2⟩
      · rw [h2, decide_eq_true (by omega)]
        have : (List.range m.length).all (fun k => ltMay (lt_ m k)) = false := List.all_eq_false.2 ⟨j, List.mem_range.2 hj, by simpa using hp⟩
        rw [this]; rfl
      · rw [h2, decide_eq_false (by omega)]
        have : (List.range m.length).all (fun k => ltMay (lt_ m k)) = true := List.all_eq_true.2 fun k hk => by simpa using h1 k (List.mem_range.1 hk)
        rw [this]; rfl
    · refine ret1 rfl H.cl (congrArg Value.bool (noB fun q => ?_))
      obtain ⟨_, _, _, _, _, q6, _⟩ := opnsF_iff.1 q
      have := neI h
      have := hcmp.2 q6
      omega
end Go.Proofs.YtggolnppckpdlaaGreat
