/- Texts of ours, joined: the steps of the proof, or the claim's theorem. -/
import Derived.Test.YtggolnppckpdlaaGreatQ03
import Derived.Test.YtggolnppckpdlaaGreatQ10
import Derived.Test.YtggolnppckpdlaaGreatQ12
set_option linter.unusedSimpArgs false
set_option linter.unusedVariables false
namespace Go.Proofs.YtggolnppckpdlaaGreat
open Go Go.Sk Go.RowKit
def thereF (a s : Int) : Bool := decide (0 ≤ a) && decide (a ≤ 64) && decide (0 ≤ s) && decide (s ≤ 16)
theorem thereF_iff (a s : Int) : thereF a s = true ↔ (0 ≤ a ∧ a ≤ 64 ∧ 0 ≤ s ∧ s ≤ 16) := by
  simp only [thereF, Bool.and_eq_true, decide_eq_true_eq]; omega
def plc2 (a s : Int) : List Value := [.int .i64 a, .int .i64 s]
theorem c_pmay (a s : Int) (w0 : World) : Calls Tryz.prog 274 [.agg (plc2 a s).toArray].toArray w0 (Ret (.bool (thereF a s)) w0) := by
  refine enter [.tmp 2] Tryz.func274 rfl Tryz.ntmps274 rfl rfl ?_
  have H := St.start w0
  repeat' (first | refine y1 sg ?_ | refine y3 ?_ | refine y5 sg ?_ | refine y7 sg H ?_ | (refine y9 H ?_; intro b w H) | refine y13 ?_ | refine y14 ?_ | (refine y17 ?_ ?_; all_goals intro h) | with_reducible apply OW.nil | with_reducible apply thn_n | with_reducible apply CW.seq | refine CW.region ?_ | with_reducible apply CW.ret | fail)
  all_goals simp only [decide_eq_true_eq, decide_eq_false_iff_not, ge_iff_le] at *
  all_goals first
    | exact ret1 rfl H.cl (congrArg Value.bool (by unfold thereF; simp only [*, decide_true, decide_false, Bool.true_and, Bool.and_true, Bool.false_and, Bool.and_false]))
def orF (x y : Int) : Int := if x = 0 then y else x
theorem c_Or2 {b : Nat} {T : TypeId} {fr : Nat × Nat} {F : Frag} (x y : Int) (w0 : World) (hF : Mem w0 F) (hm : (b, Obj.cells [Value.int .i64 x, Value.int .i64 y].toArray T fr) ∈ F) :
    Calls Tryz.prog 213 [.slice (some ⟨b, 0, none⟩) 2 2].toArray w0 (Ret (.int .i64 (orF x y)) w0) := by
  have hs : SlB F 1 (some ⟨b, 0, none⟩) 2 b 0 [.int .i64 x, .int .i64 y] T fr (fun j => [.int .i64 (if j = 0 then x else y)]) := fun _ => ⟨rfl, hm, fun j hj => by
    have : j = 0 ∨ j = 1 := by omega
    rcases this with rfl | rfl <;> exact ⟨by simp, rfl⟩⟩
  refine enter [.tmp 2] Tryz.func213 rfl Tryz.ntmps213 rfl rfl ?_
  have H := St.start w0
  repeat' (first | refine y1 sg ?_ | with_reducible apply OW.nil | with_reducible apply thn_n | with_reducible apply CW.seq | refine CW.region ?_ | with_reducible apply CW.block | fail)
  refine CW.loopI [(2, 2), (5, 5), (8, 16)] (fun k : Nat => [(8, .int .i64 (k : Int))]) (fun k w => k ≤ 2 ∧ (0 < k → x = 0) ∧ (1 < k → y = 0) ∧ St w0 [] w) (fun k => 2 - k) 0 ⟨rfl, trivial⟩ ⟨Nat.zero_le _, fun h => absurd h (by omega), fun h => absurd h (by omega), H⟩ ?_
  clear H
  rintro k gh w ⟨hk, h1, h2, H⟩
  repeat' (first | refine y1 sg ?_ | with_reducible apply OW.nil | with_reducible apply thn_n | with_reducible apply CW.seq | refine CW.region ?_ | fail)
  refine CW.cond rfl (fun h => ?_) (fun h => ?_)
  · have hlt : k < 2 := by have := of_decide_eq_true h; omega
    clear h
    repeat' (first | refine y1 sg ?_ | refine y3 ?_ | (refine y40 sg (hs) ?_ ?_ ?_; (omega); (omega)) | (refine y46 sg (hs) ((H.memF hF)) ?_ ?_; (omega)) | with_reducible apply OW.nil | with_reducible apply thn_n | with_reducible apply CW.seq | refine CW.region ?_ | with_reducible apply CW.block | with_reducible apply CW.skip | fail)
    refine CW.cond rfl (fun h => ?_) (fun h => ?_)
    · repeat' (first | refine y1 sg ?_ | with_reducible apply OW.nil | with_reducible apply thn_n | with_reducible apply CW.seq | refine CW.region ?_ | with_reducible apply CW.ret | with_reducible apply thn_r | with_reducible apply blk_r | fail)
      have h : ¬ (if k = 0 then x else y) = 0 := by simpa using h
      refine ret1 rfl H.cl (congrArg (Value.int .i64) ?_)
      rcases (show k = 0 ∨ k = 1 by omega) with rfl | rfl
      · rw [if_pos rfl] at h ⊢; unfold orF; rw [if_neg h]
      · rw [if_neg (by omega)]; unfold orF; rw [if_pos (h1 (by omega))]
    · have h : (if k = 0 then x else y) = 0 := by simpa using h
      repeat' (first | refine y1 sg ?_ | with_reducible apply OW.nil | with_reducible apply thn_n | refine CW.region ?_ | with_reducible apply CW.skip | fail)
      refine Again.mk (k + 1) rfl ⟨vsucc (by omega), trivial⟩ ⟨hlt, fun _ => ?_, fun g => ?_, H⟩ (by omega)
      · rcases (show k = 0 ∨ k = 1 by omega) with rfl | rfl
        · rw [if_pos rfl] at h; exact h
        · exact h1 (by omega)
      · obtain rfl : k = 1 := by omega
        rw [if_neg (by omega)] at h; exact h
  · obtain rfl : k = 2 := by have := of_decide_eq_false h; omega
    repeat' (first | refine y1 sg ?_ | with_reducible apply OW.nil | with_reducible apply thn_n | with_reducible apply CW.seq | refine CW.region ?_ | with_reducible apply CW.ret | with_reducible apply CW.exit | with_reducible apply thn_e | refine y24 ?_ | fail)
    exact ret1 rfl H.cl (congrArg (Value.int .i64) (by unfold orF; rw [h1 (by omega), if_pos rfl, h2 (by omega)]))
def cmpP (a s b t : Int) : Int := orF (cmpI a b) (cmpI s t)
theorem cmpP_lt (a s b t : Int) : cmpP a s b t < 0 ↔ (a < b ∨ a = b ∧ s < t) := by
  unfold cmpP orF cmpI
  repeat' split
  all_goals omega
set_option maxHeartbeats 2000000 in
theorem c_pcmp (a s b t : Int) (w0 : World) : Calls Tryz.prog 275 [.agg (plc2 a s).toArray, .agg (plc2 b t).toArray].toArray w0 (Ret (.int .i64 (cmpP a s b t)) w0) := by
  refine enter [.tmp 4] Tryz.func275 rfl Tryz.ntmps275 rfl rfl ?_
  have H := St.start w0
  repeat' (first | refine y1 sg ?_ | refine y2 sg ?_ | refine y3 ?_ | refine y4 ?_ | refine y8 sg H ?_ | (refine y9 H ?_; intro b w H) | refine y12 ?_ | (refine CW.regionR mixed ?_; intro w hcl; replace H := H.ext hcl; clear hcl; (with_reducible apply RW.quiet 10); exact rfl; decide +kernel; simp only [List.append_eq, List.cons_append, List.nil_append, List.take_succ_cons, List.take_zero, List.drop_zero]) | (refine' y31 ent214 ?_ ?_; rotate_left; exact (fun _ hcl => c_CompareI _ _ _)) | ((with_reducible apply OX.buildS sg H); exact rfl; exact rfl; exact rfl; exact rfl; exact rfl; exact rfl; exact rfl; exact rfl; exact rfl; exact rfl; intro b w H _) | (refine' y30 ent213 ?_ ?_; rotate_left; exact c_Or2 _ _ _ (H.mem) (List.Mem.head _); intro w hcl; replace H := H.ext hcl; clear hcl) | with_reducible apply OW.nil | (with_reducible apply QW.nil; intro w hcl; replace H := H.ext hcl; clear hcl) | refine y19 ?_ | with_reducible apply thn_n | with_reducible apply CW.seq | refine CW.region ?_ | with_reducible apply CW.ret | fail)
  exact ret1 rfl H.cl rfl
def wrongF (acct free held : Int) : Int := if acct = 0 then 0 else if free < 0 ∨ held < 0 then 47 else if free > 1125899906842624 ∨ held > 1125899906842624 ∨ free + held > 1125899906842624 then 41 else 0
set_option maxHeartbeats 2000000 in
theorem c_wrong (a s f d : Int) (w0 : World) (hf1 : -9223372036854775808 ≤ f) (hf2 : f ≤ 9223372036854775807) (hd1 : -9223372036854775808 ≤ d) (hd2 : d ≤ 9223372036854775807) :
    Calls Tryz.prog 276 [.agg #[.int .i64 a, .int .i64 s, .int .i64 f, .int .i64 d]].toArray w0 (Ret (.int .i64 (wrongF a f d)) w0) := by
  refine enter [.tmp 2] Tryz.func276 rfl Tryz.ntmps276 rfl rfl ?_
  have H := St.start w0
  repeat' (first | refine y1 sg ?_ | refine y3 ?_ | refine y5 sg ?_ | refine y7 sg H ?_ | (refine y9 H ?_; intro b w H) | refine y13 ?_ | refine y14 ?_ | (refine y17 ?_ ?_; all_goals intro h) | with_reducible apply OW.nil | with_reducible apply thn_n | with_reducible apply CW.seq | refine CW.region ?_ | with_reducible apply CW.block | with_reducible apply CW.ret | with_reducible apply CW.skip | with_reducible apply thn_r | with_reducible apply blk_n | with_reducible apply blk_r | refine y21 ?_ | (refine y23 ?_ ?_; all_goals intro h) | fail)
  all_goals simp only [decide_eq_true_eq, decide_eq_false_iff_not, ge_iff_le, gt_iff_lt, beq_iff_eq, beq_eq_false_iff_ne, ne_eq] at *
  all_goals try rw [w64 (by omega) (by omega)] at h
  all_goals exact ret1 rfl H.cl (congrArg (Value.int .i64) (by unfold wrongF; (repeat' split) <;> omega))
end Go.Proofs.YtggolnppckpdlaaGreat
set_option linter.unusedSimpArgs false
set_option linter.unusedVariables false
namespace Go.Proofs.YtggolnppckpdlaaGreat
open Go Go.Sk Go.RowKit
def goodR (r : Row4) : Bool := thereF r.acct r.asset && !(r.free == 0 && r.held == 0) && (if r.acct = 0 then r.held == 0 else decide (0 ≤ r.free) && decide (0 ≤ r.held) && decide (r.free + r.held ≤ 1125899906842624))
def GoodR (r : Row4) : Prop := (0 ≤ r.acct ∧ r.acct ≤ 64 ∧ 0 ≤ r.asset ∧ r.asset ≤ 16) ∧ ¬ (r.free = 0 ∧ r.held = 0) ∧ (r.acct = 0 → r.held = 0) ∧ (r.acct ≠ 0 → 0 ≤ r.free ∧ 0 ≤ r.held ∧ r.free + r.held ≤ 1125899906842624)
theorem goodR_iff (r : Row4) : goodR r = true ↔ GoodR r := by
  unfold goodR GoodR
  rw [Bool.and_eq_true, Bool.and_eq_true, thereF_iff]
  by_cases h : r.acct = 0
  · simp [h]; omega
  · simp [h]; omega
def ltR (a b : Row4) : Bool := decide (a.acct < b.acct) || (decide (a.acct = b.acct) && decide (a.asset < b.asset))
def LtR (a b : Row4) : Prop := a.acct < b.acct ∨ a.acct = b.acct ∧ a.asset < b.asset
theorem ltR_iff (a b : Row4) : ltR a b = true ↔ LtR a b := by simp [ltR, LtR]
def smR (l : List Row4) (a : Int) : Nat → Int
  | 0 => 0
  | k + 1 => smR l a k + if (rw_ l k).asset = a then (rw_ l k).free + (rw_ l k).held else 0
def rowOk (l : List Row4) (k : Nat) : Bool := goodR (rw_ l k) && (k == 0 || ltR (rw_ l (k - 1)) (rw_ l k))
def rowsF (l : List Row4) : Bool := (List.range l.length).all (fun k => rowOk l k) && (List.range 17).all fun a => smR l (a : Nat) l.length == 0
def RowsP (l : List Row4) (k : Nat) : Prop := ∀ j, j < k → GoodR (rw_ l j) ∧ (j = 0 ∨ LtR (rw_ l (j - 1)) (rw_ l j))
theorem rowOk_iff {l : List Row4} {k : Nat} : rowOk l k = true ↔ GoodR (rw_ l k) ∧ (k = 0 ∨ LtR (rw_ l (k - 1)) (rw_ l k)) := by
  unfold rowOk
  rw [Bool.and_eq_true, goodR_iff, Bool.or_eq_true, ltR_iff]
  simp
theorem rowsF_iff {l : List Row4} : rowsF l = true ↔ RowsP l l.length ∧ ∀ a : Nat, a < 17 → smR l a l.length = 0 := by
  unfold rowsF RowsP
  rw [Bool.and_eq_true, List.all_eq_true, List.all_eq_true]
  simp only [List.mem_range, rowOk_iff, beq_iff_eq]
theorem RowsP.succ {l : List Row4} {k : Nat} (h : RowsP l k) (h1 : GoodR (rw_ l k)) (h2 : k = 0 ∨ LtR (rw_ l (k - 1)) (rw_ l k)) : RowsP l (k + 1) := fun j hj => by
  rcases (show j < k ∨ j = k by omega) with g | rfl
  · exact h j g
  · exact ⟨h1, h2⟩
theorem RowsP.lt {l : List Row4} {k : Nat} (h : RowsP l k) : ∀ {i j : Nat}, i < j → j < k → LtR (rw_ l i) (rw_ l j) := by
  intro i j hij
  induction j with
  | zero => omega
  | succ j ih =>
    intro hj
    have h2 := (h (j + 1) hj).2.resolve_left (by omega)
    rw [Nat.add_sub_cancel] at h2
    rcases (show i = j ∨ i < j by omega) with rfl | g
    · exact h2
    · have h1 := ih g (by omega)
      unfold LtR at *
      omega
def zR (l : List Row4) (a : Int) : Nat → Int
  | 0 => 0
  | k + 1 => zR l a k + if (rw_ l k).asset = a ∧ (rw_ l k).acct = 0 then (rw_ l k).free else 0
def pR (l : List Row4) (a : Int) : Nat → Int
  | 0 => 0
  | k + 1 => pR l a k + if (rw_ l k).asset = a ∧ (rw_ l k).acct ≠ 0 then (rw_ l k).free + (rw_ l k).held else 0
theorem smR_split {l : List Row4} {a : Int} : ∀ {k : Nat}, RowsP l k → smR l a k = zR l a k + pR l a k
  | 0, _ => rfl
  | k + 1, h => by
    have ih := smR_split (a := a) (fun j hj => h j (by omega) : RowsP l k)
    have hg := (h k (Nat.lt_succ_self k)).1.2.2.1
    simp only [smR, zR, pR, ih]
    by_cases h1 : (rw_ l k).asset = a
    · by_cases h2 : (rw_ l k).acct = 0
      · have := hg h2; simp [h1, h2, this]; omega
      · simp [h1, h2]; omega
    · simp [h1]
theorem pR_bd {l : List Row4} {a : Int} : ∀ {k : Nat}, RowsP l k → ∃ m : Int, 0 ≤ m ∧ m ≤ 64 ∧ 0 ≤ pR l a k ∧ pR l a k ≤ 1125899906842624 * m ∧ (m = 0 ∨ ∃ j, j < k ∧ (rw_ l j).acct = m ∧ (rw_ l j).asset = a)
  | 0, _ => ⟨0, by omega, by omega, by simp [pR], by simp [pR], .inl rfl⟩
  | k + 1, h => by
    obtain ⟨m, m1, m2, m3, m4, m5⟩ := pR_bd (a := a) (fun j hj => h j (by omega) : RowsP l k)
    have hg := (h k (Nat.lt_succ_self k)).1
    simp only [pR]
    by_cases h1 : (rw_ l k).asset = a ∧ (rw_ l k).acct ≠ 0
    · rw [if_pos h1]
      obtain ⟨g1, g2, g3⟩ := hg.2.2.2 h1.2
      have hlt : m < (rw_ l k).acct := by
        rcases m5 with rfl | ⟨j, j1, j2, j3⟩
        · have := hg.1.1; omega
        · have := h.lt j1 (Nat.lt_succ_self k)
          unfold LtR at this
          omega
      exact ⟨(rw_ l k).acct, by omega, hg.1.2.1, by omega, by omega, .inr ⟨k, Nat.lt_succ_self k, rfl, h1.1⟩⟩
    · rw [if_neg h1]
      exact ⟨m, m1, m2, by omega, by omega, m5.imp_right fun ⟨j, j1, j2⟩ => ⟨j, by omega, j2⟩⟩
theorem zR_no {l : List Row4} {a : Int} : ∀ {k : Nat}, (∀ j, j < k → ¬ ((rw_ l j).asset = a ∧ (rw_ l j).acct = 0)) → zR l a k = 0
  | 0, _ => rfl
  | k + 1, h => by
    simp only [zR]
    rw [zR_no (fun j hj => h j (by omega)), if_neg (h k (Nat.lt_succ_self k))]; rfl
theorem zR_one {l : List Row4} {a : Int} {n j : Nat} (h : RowsP l n) (hj : j < n) (h1 : (rw_ l j).asset = a) (h2 : (rw_ l j).acct = 0) : ∀ {k : Nat}, k ≤ n → zR l a k = if j < k then (rw_ l j).free else 0
  | 0, _ => by simp [zR]
  | k + 1, hk => by
    have ih := zR_one h hj h1 h2 (k := k) (by omega)
    simp only [zR, ih]
    rcases (show k < j ∨ k = j ∨ j < k by omega) with g | rfl | g
    · have : ¬ ((rw_ l k).asset = a ∧ (rw_ l k).acct = 0) := fun ⟨q1, q2⟩ => by
        have := h.lt g hj
        unfold LtR at this
        omega
      rw [if_neg this, if_neg (by omega), if_neg (by omega)]; rfl
    · rw [if_neg (by omega), if_pos ⟨h1, h2⟩, if_pos (by omega)]; omega
    · have : ¬ ((rw_ l k).asset = a ∧ (rw_ l k).acct = 0) := fun ⟨q1, q2⟩ => by
        have := h.lt g (by omega)
        unfold LtR at this
        omega
      rw [if_pos g, if_neg this, if_pos (by omega)]; omega
theorem rows_bd {l : List Row4} (hl : rowsF l = true) {a : Nat} (ha : a < 17) {k : Nat} (hk : k ≤ l.length) : -72057594037927936 ≤ smR l a k ∧ smR l a k ≤ 72057594037927936 := by
  obtain ⟨h, h0⟩ := rowsF_iff.1 hl
  have hk2 : RowsP l k := fun j hj => h j (by omega)
  obtain ⟨m, m1, m2, m3, m4, _⟩ := pR_bd (a := a) h
  obtain ⟨m', p1, p2, p3, p4, _⟩ := pR_bd (a := a) hk2
  have e1 := smR_split (a := a) h
  have e2 := smR_split (a := a) hk2
  rw [h0 a ha] at e1
  by_cases hz : ∃ j, j < l.length ∧ (rw_ l j).asset = a ∧ (rw_ l j).acct = 0
  · obtain ⟨j, j1, j2, j3⟩ := hz
    have z1 := zR_one h j1 j2 j3 (Nat.le_refl _)
    have z2 := zR_one h j1 j2 j3 hk
    rw [if_pos j1] at z1
    split at z2 <;> omega
  · have z2 : zR l a k = 0 := zR_no fun j hj hh => hz ⟨j, by omega, hh.1, hh.2⟩
    omega
theorem rows_zero {l : List Row4} (hl : rowsF l = true) {j : Nat} (hj : j < l.length) (h0 : (rw_ l j).acct = 0) : -72057594037927936 ≤ (rw_ l j).free ∧ (rw_ l j).free ≤ 0 := by
  obtain ⟨h, h1⟩ := rowsF_iff.1 hl
  have hg := (h j hj).1.1
  have ha : (rw_ l j).asset = (((rw_ l j).asset.toNat : Nat) : Int) := by omega
  obtain ⟨m, m1, m2, m3, m4, _⟩ := pR_bd (a := (rw_ l j).asset) h
  have e1 := smR_split (a := (rw_ l j).asset) h
  have z1 := zR_one h hj rfl h0 (Nat.le_refl _)
  rw [if_pos hj] at z1
  have := h1 (rw_ l j).asset.toNat (by omega)
  rw [← ha] at this
  omega
end Go.Proofs.YtggolnppckpdlaaGreat
set_option linter.unusedSimpArgs false
set_option linter.unusedVariables false
namespace Go.Proofs.YtggolnppckpdlaaGreat
open Go Go.Sk Go.RowKit
def wcells (z : Int) : List Value := [.int .i64 (z / 18446744073709551616), .int .u64 (z % 18446744073709551616)]
theorem ext_add64 (x y : Int) (hx : 0 ≤ x) (hy : 0 ≤ y) (w : World) : (callFunc 292 [Value.int .u64 x, Value.int .u64 y, Value.int .u64 0].toArray).run Tryz.prog w =
    .ok (.value (.tuple #[.int .u64 ((x + y + 0) % 18446744073709551616), .int .u64 ((x + y + 0) / 18446744073709551616)])) w := by
  rw [run_callFunc_extern (e := add64Entry) Tryz.func292 (by kernel_rfl) (by kernel_rfl) (by kernel_rfl) (by kernel_rfl)]
  rw [run_add64 x y 0 hx hy (Int.le_refl 0) (by omega)]
  rfl
theorem u64w (n : Int) : IntKind.u64.wrap n = n % 18446744073709551616 := rfl
theorem shr63 (n : Int) : n.fdiv (2 ^ min 63 IntKind.i64.bits) = n / 9223372036854775808 := by
  have : ((2 : Int) ^ min 63 IntKind.i64.bits) = 9223372036854775808 := by decide
  rw [this, Int.fdiv_eq_ediv_of_nonneg _ (by omega)]
theorem wide_high (z n : Int) (h1 : -1267650600228229401496703205376 ≤ z) (h2 : z ≤ 1267650600228229401496703205376) (h3 : -9223372036854775808 ≤ n) (h4 : n ≤ 9223372036854775807) :
    IntKind.i64.wrap (IntKind.i64.wrap (z / 18446744073709551616 + n.fdiv (2 ^ min 63 IntKind.i64.bits)) + IntKind.i64.wrap ((z % 18446744073709551616 + IntKind.u64.wrap n + 0) / 18446744073709551616)) = (z + n) / 18446744073709551616 := by
  rw [shr63, u64w, w64 (x := z / 18446744073709551616 + n / 9223372036854775808) (by omega) (by omega), w64 (x := (z % 18446744073709551616 + n % 18446744073709551616 + 0) / 18446744073709551616) (by omega) (by omega), w64 (by omega) (by omega)]
  omega
theorem wide_low (z n : Int) : (z % 18446744073709551616 + IntKind.u64.wrap n + 0) % 18446744073709551616 = (z + n) % 18446744073709551616 := by
  rw [u64w]; omega
theorem c_plus (z n : Int) (w0 : World) (h1 : -1267650600228229401496703205376 ≤ z) (h2 : z ≤ 1267650600228229401496703205376) (h3 : -9223372036854775808 ≤ n) (h4 : n ≤ 9223372036854775807) :
    Calls Tryz.prog 262 [.agg (wcells z).toArray, .int .i64 n].toArray w0 (Ret (.agg (wcells (z + n)).toArray) w0) := by
  refine enter [.cell 4 284] Tryz.func262 rfl Tryz.ntmps262 rfl rfl ?_
  have H := St.start w0
  repeat' (first | refine y1 sg ?_ | refine y3 ?_ | refine y7 sg H ?_ | (refine y9 H ?_; intro b w H) | (refine y10 sg H ?_; intro b w H) | (refine y11 sg H ?_; intro w H) | ((with_reducible apply OX.val); exact rfl; exact rfl; exact Yq.ext rfl rfl (ext_add64 (z % 18446744073709551616) (IntKind.u64.wrap n) (by omega) (by rw [u64w]; omega))) | with_reducible apply OW.nil | with_reducible apply thn_n | with_reducible apply CW.seq | refine CW.region ?_ | with_reducible apply CW.ret | fail)
  refine retV (vs := [_]) ⟨rdvC sg rfl H.mem (List.Mem.head _) rfl rfl, trivial⟩ H.cl ?_
  rw [wide_high z n h1 h2 h3 h4, wide_low]
  rfl
def sumTo (l : List Int) : Nat → Int
  | 0 => 0
  | k + 1 => sumTo l k + l.getD k 0
def iel (l : List Int) (j : Nat) : List Value := [.int .i64 (l.getD j 0)]
def Ints (F : Frag) (a : Option Addr) (cap : Nat) (l : List Int) : Prop := SlA F 1 a l.length cap (iel l)
def I64 (l : List Int) : Prop := ∀ j, -9223372036854775808 ≤ l.getD j 0 ∧ l.getD j 0 ≤ 9223372036854775807
theorem sumTo_bd (l : List Int) (h : I64 l) (k : Nat) : -9223372036854775808 * k ≤ sumTo l k ∧ sumTo l k ≤ 9223372036854775807 * k := by
  induction k with
  | zero => exact ⟨by simp [sumTo], by simp [sumTo]⟩
  | succ k ih => have := h k; simp only [sumTo]; constructor <;> omega
def toldF (z : Int) : Int × Int := if z > 4611686018427387904 ∨ z < -4611686018427387904 then (0, 41) else (z, 0)
theorem toldF_far (z : Int) (h : ¬ (-9223372036854775808 ≤ z ∧ z ≤ 9223372036854775807)) : toldF z = (0, 41) := by
  rw [toldF, if_pos (by omega)]
theorem vlow (z : Int) : (z / 18446744073709551616 = (IntKind.i64.wrap (z % 18446744073709551616)).fdiv (2 ^ min 63 IntKind.i64.bits) ↔ -9223372036854775808 ≤ z ∧ z ≤ 9223372036854775807) ∧
    ((-9223372036854775808 ≤ z ∧ z ≤ 9223372036854775807) → IntKind.i64.wrap (z % 18446744073709551616) = z) := by
  rw [shr63, IntKind.wrap_i64]
  constructor
  · constructor <;> intro h <;> omega
  · intro h; omega
theorem c_told (z : Int) (w0 : World) :
    Calls Tryz.prog 263 [.agg (wcells z).toArray].toArray w0 (Ret (.tuple #[.int .i64 (toldF z).1, .int .i64 (toldF z).2]) w0) := by
  refine enter [.tmp 2, .tmp 3] Tryz.func263 rfl Tryz.ntmps263 rfl rfl ?_
  have H := St.start w0
  repeat' (first | refine y1 sg ?_ | refine y3 ?_ | refine y5 sg ?_ | refine y7 sg H ?_ | (refine y9 H ?_; intro b w H) | refine y13 ?_ | refine y14 ?_ | (refine y17 ?_ ?_; all_goals intro h) | with_reducible apply OW.nil | with_reducible apply thn_n | with_reducible apply CW.seq | refine CW.region ?_ | with_reducible apply CW.ret | with_reducible apply CW.skip | with_reducible apply thn_r | refine y21 ?_ | (refine y23 ?_ ?_; all_goals intro h) | fail)
  · rw [toldF_far z (fun h1 => by rw [(vlow z).1.2 h1] at h; simp at h)]; exact ret2 rfl rfl H.cl rfl
  all_goals
    have hz := (vlow z).1.1 (by simpa using ‹(z / 18446744073709551616 != (IntKind.i64.wrap (z % 18446744073709551616)).fdiv (2 ^ min 63 IntKind.i64.bits)) = false›)
    have hv := (vlow z).2 hz
    simp only [hv] at *
  · exact ret2 rfl rfl H.cl (by rw [toldF, if_pos (.inl (of_decide_eq_true h))])
  · exact ret2 rfl rfl H.cl (by rw [toldF, if_pos (.inr (of_decide_eq_true h))])
  · refine ret2 rfl rfl H.cl ?_
    rw [toldF, if_neg (fun hc => hc.elim (fun h3 => absurd h3 (of_decide_eq_false ‹decide (z > 4611686018427387904) = false›)) (fun h3 => absurd h3 (of_decide_eq_false ‹decide (z < -4611686018427387904) = false›)))]
theorem c_Sum {a : Option Addr} {cap : Nat} (l : List Int) (hl : I64 l) (hlen : l.length ≤ 1048576) {F : Frag} (w0 : World) (hF : Mem w0 F) (hs : Ints F a cap l) :
    Calls Tryz.prog 221 [.slice a l.length cap].toArray w0 (Ret (.tuple #[.int .i64 (toldF (sumTo l l.length)).1, .int .i64 (toldF (sumTo l l.length)).2]) w0) := by
  obtain ⟨hn, hc, b0, off, cs, T, fr, hs⟩ := hs
  refine enter [.tmp 2, .tmp 3] Tryz.func221 rfl Tryz.ntmps221 rfl rfl ?_
  have H := St.start w0
  repeat' (first | refine y1 sg ?_ | refine y3 ?_ | (refine y10 sg H ?_; intro b w H) | with_reducible apply OW.nil | with_reducible apply thn_n | with_reducible apply CW.seq | refine CW.region ?_ | with_reducible apply CW.block | fail)
  refine CW.loopI [(6, 6), (9, 16)] (fun k : Nat => [(9, .int .i64 (k : Int))]) (fun k w => k ≤ l.length ∧ St w0 [cb _ (wcells (sumTo l k)) 284] w) (fun k => l.length - k) 0 ⟨rfl, trivial⟩ ⟨Nat.zero_le _, H⟩ ?_
  clear H
  rintro k g w ⟨hk, H⟩
  have hb := sumTo_bd l hl k
  have hb2 := hl k
  repeat' (first | refine y1 sg ?_ | with_reducible apply OW.nil | with_reducible apply thn_n | with_reducible apply CW.seq | refine CW.region ?_ | fail)
  refine CW.cond rfl (fun h => ?_) (fun h => ?_)
  · have hlt : k < l.length := by simpa using h
    repeat' (first | refine y1 sg ?_ | refine y3 ?_ | refine y7 sg H ?_ | (refine y11 sg H ?_; intro w H) | (refine y40 sg (hs) ?_ ?_ ?_; (omega); (omega)) | ((with_reducible apply OX.val); exact rfl; exact rfl; exact Yq.loadB1 sg hs (H.memF hF) rfl rfl rfl rfl hlt rfl) | (refine' y30 ent262 ?_ ?_; rotate_left; exact c_plus (sumTo l k) (l.getD k 0) _ (by omega) (by omega) hb2.1 hb2.2; intro w hcl; replace H := H.ext hcl; clear hcl) | with_reducible apply OW.nil | with_reducible apply thn_n | with_reducible apply CW.seq | refine CW.region ?_ | with_reducible apply CW.block | with_reducible apply CW.skip | fail)
    refine Again.mk (k + 1) rfl ⟨vsucc (by omega), trivial⟩ ⟨hlt, H⟩ (by omega)
  · have hkn : k = l.length := by simp at h; omega
    subst hkn
    repeat' (first | refine y1 sg ?_ | refine y3 ?_ | refine y7 sg H ?_ | (refine' y30 ent263 ?_ ?_; rotate_left; exact c_told (sumTo l l.length) _; intro w hcl; replace H := H.ext hcl; clear hcl) | with_reducible apply OW.nil | with_reducible apply thn_n | with_reducible apply CW.seq | refine CW.region ?_ | with_reducible apply CW.ret | with_reducible apply CW.exit | with_reducible apply thn_e | refine y24 ?_ | fail)
    exact ret2 rfl rfl H.cl rfl
def addF (a b : Int) : Int × Int := toldF (a + b)
theorem Ints.two {F : Frag} {b : Nat} {x y : Int} {T : TypeId} {fr : Nat × Nat} (h : (b, Obj.cells [Value.int .i64 x, Value.int .i64 y].toArray T fr) ∈ F) : Ints F (some ⟨b, 0, none⟩) 2 [x, y] :=
  ⟨Nat.le_refl _, (by show 2 ≤ 140737488355328; omega), b, 0, _, T, fr, fun _ => ⟨rfl, h, fun j hj => by
    have : j = 0 ∨ j = 1 := by simp at hj; omega
    rcases this with rfl | rfl <;> exact ⟨by simp, rfl⟩⟩⟩
theorem c_Add (x y : Int) (w0 : World) (h1 : -9223372036854775808 ≤ x) (h2 : x ≤ 9223372036854775807) (h3 : -9223372036854775808 ≤ y) (h4 : y ≤ 9223372036854775807) :
    Calls Tryz.prog 181 [.int .i64 x, .int .i64 y].toArray w0 (Ret (.tuple #[.int .i64 (addF x y).1, .int .i64 (addF x y).2]) w0) := by
  have hI : I64 [x, y] := by
    intro j
    rcases j with _ | _ | j
    · exact ⟨h1, h2⟩
    · exact ⟨h3, h4⟩
    · simp
  have e : sumTo [x, y] [x, y].length = x + y := by simp [sumTo]
  refine enter [.tmp 4, .tmp 5] Tryz.func181 rfl Tryz.ntmps181 rfl rfl ?_
  have H := St.start w0
  repeat' (first | refine y1 sg ?_ | refine y3 ?_ | ((with_reducible apply OX.buildS sg H); exact rfl; exact rfl; exact rfl; exact rfl; exact rfl; exact rfl; exact rfl; exact rfl; exact rfl; exact rfl; intro b w H _) | (refine' y30 ent221 ?_ ?_; rotate_left; exact c_Sum [x, y] hI (by show 2 ≤ 1048576; omega) _ (H.mem) (Ints.two (List.Mem.head _)); intro w hcl; replace H := H.ext hcl; clear hcl) | with_reducible apply OW.nil | with_reducible apply thn_n | with_reducible apply CW.seq | refine CW.region ?_ | with_reducible apply CW.ret | fail)
  refine ret2 rfl rfl H.cl ?_
  rw [e]; rfl
end Go.Proofs.YtggolnppckpdlaaGreat
