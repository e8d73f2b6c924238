/- Texts of ours, joined: the steps of the proof, or the claim's theorem. -/
import Derived.ChangeKeysEq
import Derived.Test.YtggolnppckpdlaaGreatT03
import Derived.Test.YtggolnppckpdlaaGreatT04
import Derived.Test.YtggolnppckpdlaaGreatT07
namespace Go.Sk
open Go Go.RowKit
section
attribute [local semireducible] Yq OX OW QX QW RA
variable {P : Program} (S : Sig P) {o : Oper} {e : Env} {w : World}
theorem Yq.ixP {t E : TypeId} {x i : Operand} {b off n j : Nat} {k : IntKind} {q : Int} {ti te : TI} (hj : q.toNat = j) (h0 : 0 ≤ q) (h1 : q < n) (ho : o.op = .indexAddr t x i)
  (hx : ev e x = .pointer (some ⟨b, off, none⟩)) (hi : ev e i = .int k q) (ht : lk S.tab t = some ti) (htd : ti.d = .array n E) (he : lk S.tab E = some te) : Yq P o e w (.pointer (some ⟨b, off + j * te.size, none⟩)) := by
 intro w' _
 have hu := S.run_und ht w'
 rw [htd] at hu
 simp only [execOp, ho, Instr.indexAt, hx, hi, asIntOf, hu, Instr.sureAddr, Sem.run_bind, Sem.run_pure, Result.andThen_ok, h0, h1, and_self, if_true, S.run_size he, zBh, hj]
def cellsOf (el : Nat → List Value) (n : Nat) : List Value := (List.range n).flatMap el
theorem zLZ {t E : TypeId} {ti te : TI} {n : Nat} {q : IntKind} (ht : lk S.tab t = some ti) (htd : ti.d = .array n E) (he : lk S.tab E = some te) (hed : te.d = .int q) (hsz : te.size = 1) {k : IntKind} (f g : Nat → Int) (w : World) :
  (Op.equalIn 10000 t (.agg ((List.range n).map fun j => Value.int k (f j)).toArray) (.agg ((List.range n).map fun j => Value.int k (g j)).toArray)).run P w = .ok ((List.range n).all fun j => f j == g j) w := by
 have hu := S.run_und ht w
 rw [htd] at hu
 have hs := S.run_size he w
 rw [hsz] at hs
 have hue := S.und he
 rw [hed] at hue
 obtain ⟨fi, hf1, hf2, _⟩ := S.inf he
 have hc : P.cellsOf E = 1 := by unfold Program.cellsOf; rw [hf1]; simp [hf2, hsz]
 have hut := S.und ht
 rw [htd] at hut
 rw [show (10000 : Nat) = 9999 + 1 from rfl, run_equalIn_array w 9999 _ _ hut hf1, hc]
 have hp : ∀ (h : Nat → Int) (i : Nat), i < n → (part E ((List.range n).map fun j => Value.int k (h j)).toArray (i * 1)).run P w = .ok (.int k (h i)) w := fun h i hi =>
  zDF S he _ _ (by rw [show zBK te.d = false by rw [hed]; rfl]; simp [hi]) w
 have hE : ∀ i, (Op.equalIn 9999 E (.int k (f i)) (.int k (g i))).run P w = .ok (f i == g i) w := fun i => run_equalIn_int w 9998 E _ _ _ _ hue
 have key : ∀ (is : List Nat), (∀ i ∈ is, i < n) → (Op.eqItems 9999 E 1 ((List.range n).map fun j => Value.int k (f j)).toArray ((List.range n).map fun j => Value.int k (g j)).toArray is).run P w = .ok (is.all fun j => f j == g j) w := by
  intro is
  induction is with
  | nil => intro _; rfl
  | cons i is ih =>
    intro hi
    have ih := ih fun x hx => hi x (List.mem_cons_of_mem _ hx)
    have h0 := hi i (List.Mem.head _)
    simp only [Op.eqItems, Sem.run_bind, hp f i h0, hp g i h0, hE, Result.andThen_ok, List.all_cons]
    by_cases hfg : f i = g i
    ·simpa [hfg] using ih
    ·simp [hfg]
 exact key _ fun i hi => List.mem_range.1 hi
theorem Yq.build0 {t E : TypeId} {n : Nat} {ti te : TI} (ho : o.op = .build t #[]) (ht : lk S.tab t = some ti) (htd : ti.d = .array n E) (he : lk S.tab E = some te) : Yq P o e w (.agg ti.zero.toArray) := by
 intro w' _
 have hu := S.run_und ht w'
 rw [htd] at hu
 obtain ⟨f, h1, _, h3⟩ := S.inf ht
 obtain ⟨zv, hz1, hz2⟩ := Option.map_eq_some_iff.1 h3
 have hzv : (zeroValue t).run P w' = .ok zv w' := by simp [zeroValue, typeInfo, h1, hz1]
 simp [execOp, ho, Instr.build, hu, hzv, hz2, S.run_size he, Instr.fill]
def zAQ (k : IntKind) (n : Nat) (f : Nat → Int) : List Value := (List.range n).map fun j => Value.int k (f j)
theorem zAm (k : IntKind) (n : Nat) (f : Nat → Int) : (zAQ k n f).length = n := by simp [zAQ]
theorem zEm {k : IntKind} {n j : Nat} (f : Nat → Int) (h : j < n) : (zAQ k n f)[j]? = some (.int k (f j)) := by simp [zAQ, h]
def zER (f : Nat → Int) (j : Nat) (v : Int) : Nat → Int := fun i => if i = j then v else f i
theorem zO6 {k : IntKind} {n j : Nat} (f : Nat → Int) (v : Int) (h : j < n) : wr (zAQ k n f) (0 + j * 1) [.int k v] = zAQ k n (zER f j v) := by
 apply List.ext_getElem?
 intro i
 rw [zDh (by rw [zAm]; simp; omega)]
 simp only [List.length_singleton, Nat.mul_one, Nat.zero_add]
 by_cases hi : i = j
 ·subst hi
  rw [if_pos (by omega), zEm _ h, Nat.sub_self]
  simp [zER]
 ·rw [if_neg (by omega)]
  rcases Nat.lt_or_ge i n with g | g
  ·rw [zEm _ g, zEm _ g]; simp [zER, hi]
  ·rw [List.getElem?_eq_none (by rw [zAm]; exact g), List.getElem?_eq_none (by rw [zAm]; exact g)]
theorem Yq.loadA {M : zI} {t : TypeId} {x : Operand} {b n j : Nat} {T : TypeId} {k : IntKind} {f : Nat → Int} {ti : TI} (hM : Mem w M) (hm : cb b (zAQ k n f) T ∈ M) (hj : j < n) (ho : o.op = .load t x) (hx : ev e x = .pointer (some ⟨b, 0 + j * 1, none⟩)) (ht : lk S.tab t = some ti) (hag : zBK ti.d = false) : Yq P o e w (.int k (f j)) := by
 refine Yq.load S ho hx hM hm ht ?_
 unfold ldv
 rw [hag]
 simp only [cond_false]
 rw [Nat.mul_one, Nat.zero_add]
 exact zEm f hj
theorem Yq.loadW {M : zI} {t : TypeId} {x : Operand} {b n : Nat} {T : TypeId} {k : IntKind} {f : Nat → Int} {ti : TI} (hM : Mem w M) (hm : cb b (zAQ k n f) T ∈ M) (ho : o.op = .load t x) (hx : ev e x = .pointer (some ⟨b, 0, none⟩)) (ht : lk S.tab t = some ti) (hag : zBK ti.d = true) (hsz : ti.size = n) : Yq P o e w (.agg (zAQ k n f).toArray) := by
 refine Yq.load S ho hx hM hm ht ?_
 unfold ldv
 rw [hag, hsz]
 have : Nat.ble (0 + n) (zAQ k n f).length = true := by rw [zAm]; simp
 rw [this]
 simp only [cond_true, List.drop_zero]
 rw [List.take_of_length_le (by rw [zAm]; exact Nat.le_refl _)]
theorem Yq.eqlA {t E : TypeId} {x y : Operand} {yT : TypeId} {n : Nat} {k q : IntKind} {f g : Nat → Int} {ti te : TI} (eg : P.eqGuardType P.depth t = false) (hx : ev e x = .agg (zAQ k n f).toArray) (hy : ev e y = .agg (zAQ k n g).toArray)
  (ho : o.op = .binOp .eql t x y yT) (ht : lk S.tab t = some ti) (htd : ti.d = .array n E) (he : lk S.tab E = some te) (hed : te.d = .int q) (hsz : te.size = 1) : Yq P o e w (.bool ((List.range n).all fun j => f j == g j)) := by
 refine Yq.of fun w' => ?_
 have hr := zLZ S ht htd he hed hsz (k := k) f g w'
 have h2 : (binOp .eql t (.agg (zAQ k n f).toArray) (.agg (zAQ k n g).toArray)).run P w' = .ok (.bool ((List.range n).all fun j => f j == g j)) w' := by
  rw [run_eql_struct]
  unfold zAQ
  rw [hr]; rfl
 simp only [execOp, ho, hx, hy, Sem.run_bind, run_eqGuard_agg w' _ _ _ _ _ _ eg, Result.andThen_ok, h2, Sem.run_pure]
end
section
variable {P : Program} {n : Nw} {ops : Array Oper} {Q : zAW} {o : Oper} {rest : List Oper} {L : List (Nat × Value)} {b0 : Env} {w : World} (S : Sig P)
theorem OX.storeA {w0 : World} {G G' : zI} {t : TypeId} {x y : Operand} {b m j : Nat} {T : TypeId} {k : IntKind} {f : Nat → Int} {v : Int} {ti : TI} (H : St w0 G w) (hj : j < m) (hu : Up b (.cells (zAQ k m f).toArray T (0, 0)) (.cells (zAQ k m (zER f j v)).toArray T (0, 0)) G G')
  (kk : ∀ w', St w0 G' w' → OW P n ops Q rest (ovl L b0) w') (ho : o.op = .store t x y := by exact rfl) (hd : o.dst = none := by exact rfl)
  (hx : ev (ovl L b0) x = .pointer (some ⟨b, 0 + j * 1, none⟩) := by exact rfl) (hy : ev (ovl L b0) y = .int k v := by exact rfl) (ht : lk S.tab t = some ti := by exact rfl) (hsz : ti.size = 1 := by exact rfl) : OX P n ops Q o rest (ovl L b0) w := by
 rw [← zO6 (k := k) f v hj] at hu
 exact OX.storeX S H ho hd hx hy (v := .int k v) (vs := [.int k v]) rfl ht (by rw [hsz]; rfl) hu (by rw [zAm]; simp; omega) (by intro u hu; rw [List.mem_singleton] at hu; subst hu; rfl) kk
end
end Go.Sk
set_option linter.unusedSimpArgs false
set_option linter.unusedVariables false
namespace Go.Proofs.YtggolnppckpdlaaGreat
open Go Go.Sk Go.RowKit
def zBf (a s : Int) : Bool := decide (0 ≤ a) && decide (a ≤ 64) && decide (0 ≤ s) && decide (s ≤ 16)
theorem zDM (a s : Int) : zBf a s = true ↔ (0 ≤ a ∧ a ≤ 64 ∧ 0 ≤ s ∧ s ≤ 16) := by
 simp only [zBf, Bool.and_eq_true, decide_eq_true_eq]; omega
def plc2 (a s : Int) : List Value := [.int .i64 a, .int .i64 s]
theorem c_pmay (a s : Int) (w0 : World) : Calls Tryz.prog 274 [.agg (plc2 a s).toArray].toArray w0 (Ret (.bool (zBf a s)) w0) := by
 refine enter [.tmp 2] Tryz.func274 rfl Tryz.ntmps274 rfl rfl ?_
 have H := zE w0
 repeat' (first | refine y1 sg ?_ | refine y3 ?_ | refine y5 sg ?_ | refine y7 sg H ?_ | (refine y9 H ?_; intro b w H) | refine y13 ?_ | refine y14 ?_ | (refine y17 ?_ ?_; all_goals intro h) | (with_reducible first | apply zB | apply zD | apply zC | apply zG) | refine zA ?_ | fail)
 all_goals simp only [decide_eq_true_eq, decide_eq_false_iff_not, ge_iff_le] at *
 all_goals first
  | exact zO rfl H.cl (congrArg Value.bool (by unfold zBf; simp only [*, decide_true, decide_false, Bool.true_and, Bool.and_true, Bool.false_and, Bool.and_false]))
theorem zId (a s : Int) (w0 : World) : Calls Tryz.prog 226 [.int .i64 a, .int .i64 s].toArray w0 (Ret (.bool (zBf a s)) w0) := by
 refine enter [.tmp 4] Tryz.func226 rfl Tryz.ntmps226 rfl rfl ?_
 have H := zE w0
 repeat' (first | refine y1 sg ?_ | refine y5 sg ?_ | refine y13 ?_ | refine y14 ?_ | (refine y17 ?_ ?_; all_goals intro h) | (with_reducible first | apply zB | apply zD | apply zC | apply zG) | refine zA ?_ | fail)
 all_goals simp only [decide_eq_true_eq, decide_eq_false_iff_not, ge_iff_le] at *
 all_goals first
  | exact zO rfl H.cl (congrArg Value.bool (by unfold zBf; simp only [*, decide_true, decide_false, Bool.true_and, Bool.and_true, Bool.false_and, Bool.and_false]))
def orF (x y : Int) : Int := if x = 0 then y else x
theorem zNX {b : Nat} {T : TypeId} {fr : Nat × Nat} {F : zI} (x y : Int) (w0 : World) (hF : Mem w0 F) (hm : (b, Obj.cells [Value.int .i64 x, Value.int .i64 y].toArray T fr) ∈ F) :
  Calls Tryz.prog 213 [.slice (some ⟨b, 0, none⟩) 2 2].toArray w0 (Ret (.int .i64 (orF x y)) w0) := by
 have hs : SlB F 1 (some ⟨b, 0, none⟩) 2 b 0 [.int .i64 x, .int .i64 y] T fr (fun j => [.int .i64 (if j = 0 then x else y)]) := fun _ => ⟨rfl, hm, fun j hj => by
  have : j = 0 ∨ j = 1 := by omega
  rcases this with rfl | rfl <;> exact ⟨by simp, rfl⟩⟩
 refine enter [.tmp 2] Tryz.func213 rfl Tryz.ntmps213 rfl rfl ?_
 have H := zE w0
 repeat' (first | refine y1 sg ?_ | (with_reducible first | apply zB | apply zD | apply zC | apply zF) | refine zA ?_ | fail)
 refine zK [(2, 2), (5, 5), (8, 16)] (fun k : Nat => [(8, .int .i64 (k : Int))]) (fun k w => k ≤ 2 ∧ (0 < k → x = 0) ∧ (1 < k → y = 0) ∧ St w0 [] w) (fun k => 2 - k) 0 ⟨rfl, trivial⟩ ⟨Nat.zero_le _, fun h => absurd h (by omega), fun h => absurd h (by omega), H⟩ ?_
 clear H
 rintro k gh w ⟨hk, h1, h2, H⟩
 repeat' (first | refine y1 sg ?_ | (with_reducible first | apply zB | apply zD | apply zC) | refine zA ?_ | fail)
 refine zL rfl (fun h => ?_) (fun h => ?_)
 ·have hlt : k < 2 := by have := of_decide_eq_true h; omega
  clear h
  repeat' (first | refine y1 sg ?_ | refine y3 ?_ | (refine y40 sg (hs) ?_ ?_ ?_; (omega); (omega)) | (refine y46 sg (hs) ((H.memF hF)) ?_ ?_; (omega)) | (with_reducible first | apply zB | apply zD | apply zC | apply zF | apply zH) | refine zA ?_ | fail)
  refine zL rfl (fun h => ?_) (fun h => ?_)
  ·repeat' (first | refine y1 sg ?_ | (with_reducible first | apply zB | apply zD | apply zC | apply zG | apply zP | apply za) | refine zA ?_ | fail)
   have h : ¬ (if k = 0 then x else y) = 0 := by simpa using h
   refine zO rfl H.cl (congrArg (Value.int .i64) ?_)
   rcases (show k = 0 ∨ k = 1 by omega) with rfl | rfl
   ·rw [if_pos rfl] at h ⊢; unfold orF; rw [if_neg h]
   ·rw [if_neg (by omega)]; unfold orF; rw [if_pos (h1 (by omega))]
  ·have h : (if k = 0 then x else y) = 0 := by simpa using h
   repeat' (first | refine y1 sg ?_ | (with_reducible first | apply zB | apply zD | apply zH) | refine zA ?_ | fail)
   refine zM (k + 1) rfl ⟨zV (by omega), trivial⟩ ⟨hlt, fun _ => ?_, fun g => ?_, H⟩ (by omega)
   ·rcases (show k = 0 ∨ k = 1 by omega) with rfl | rfl
    ·rw [if_pos rfl] at h; exact h
    ·exact h1 (by omega)
   ·obtain rfl : k = 1 := by omega
    rw [if_neg (by omega)] at h; exact h
 ·obtain rfl : k = 2 := by have := of_decide_eq_false h; omega
  repeat' (first | refine y1 sg ?_ | (with_reducible first | apply zB | apply zD | apply zC | apply zG | apply zN | apply zW) | refine zA ?_ | refine y24 ?_ | fail)
  exact zO rfl H.cl (congrArg (Value.int .i64) (by unfold orF; rw [h1 (by omega), if_pos rfl, h2 (by omega)]))
def zJb (a s b t : Int) : Int := orF (zFH a b) (zFH s t)
theorem zEn (a s b t : Int) : zJb a s b t < 0 ↔ (a < b ∨ a = b ∧ s < t) := by
 unfold zJb orF zFH
 repeat' split
 all_goals omega
set_option maxHeartbeats 2000000 in
theorem c_pcmp (a s b t : Int) (w0 : World) : Calls Tryz.prog 275 [.agg (plc2 a s).toArray, .agg (plc2 b t).toArray].toArray w0 (Ret (.int .i64 (zJb a s b t)) w0) := by
 refine enter [.tmp 4] Tryz.func275 rfl Tryz.ntmps275 rfl rfl ?_
 have H := zE w0
 repeat' (first | refine y1 sg ?_ | refine y2 sg ?_ | refine y3 ?_ | refine y4 ?_ | refine y8 sg H ?_ | (refine y9 H ?_; intro b w H) | refine y12 ?_ | (refine CW.regionR zZ ?_; intro w hcl; replace H := H.ext hcl; clear hcl; (with_reducible apply RW.quiet 10); exact rfl; decide +kernel; simp only [List.append_eq, List.cons_append, List.nil_append, List.take_succ_cons, List.take_zero, List.drop_zero]) | (refine' y31 zJP ?_ ?_; rotate_left; exact (fun _ hcl => zEQ _ _ _)) | (refine z14 sg H ?_; intro b w H) | (refine' y30 zJO ?_ ?_; rotate_left; exact zNX _ _ _ (H.mem) (List.Mem.head _); intro w hcl; replace H := H.ext hcl; clear hcl) | (with_reducible first | apply zB | apply zD | apply zC | apply zG) | (with_reducible apply zb; intro w hcl; replace H := H.ext hcl; clear hcl) | refine y19 ?_ | refine zA ?_ | fail)
 exact zO rfl H.cl rfl
def zES (acct free held : Int) : Int := if acct = 0 then 0 else if free < 0 ∨ held < 0 then 47 else if free > 1125899906842624 ∨ held > 1125899906842624 ∨ free + held > 1125899906842624 then 41 else 0
set_option maxHeartbeats 2000000 in
theorem zO7 (a s f d : Int) (w0 : World) (hf1 : -9223372036854775808 ≤ f) (hf2 : f ≤ 9223372036854775807) (hd1 : -9223372036854775808 ≤ d) (hd2 : d ≤ 9223372036854775807) :
  Calls Tryz.prog 276 [.agg #[.int .i64 a, .int .i64 s, .int .i64 f, .int .i64 d]].toArray w0 (Ret (.int .i64 (zES a f d)) w0) := by
 refine enter [.tmp 2] Tryz.func276 rfl Tryz.ntmps276 rfl rfl ?_
 have H := zE w0
 repeat' (first | refine y1 sg ?_ | refine y3 ?_ | refine y5 sg ?_ | refine y7 sg H ?_ | (refine y9 H ?_; intro b w H) | refine y13 ?_ | refine y14 ?_ | (refine y17 ?_ ?_; all_goals intro h) | (with_reducible first | apply zB | apply zD | apply zC | apply zF | apply zG | apply zH | apply zP | apply zDX | apply za) | refine zA ?_ | refine y21 ?_ | (refine y23 ?_ ?_; all_goals intro h) | fail)
 all_goals simp only [decide_eq_true_eq, decide_eq_false_iff_not, ge_iff_le, gt_iff_lt, beq_iff_eq, beq_eq_false_iff_ne, ne_eq] at *
 all_goals try rw [w64 (by omega) (by omega)] at h
 all_goals exact zO rfl H.cl (congrArg (Value.int .i64) (by unfold zES; (repeat' split) <;> omega))
end Go.Proofs.YtggolnppckpdlaaGreat
set_option linter.unusedSimpArgs false
set_option linter.unusedVariables false
namespace Go.Proofs.YtggolnppckpdlaaGreat
open Go Go.Sk Go.RowKit
def zNY (r : Row4) : Bool := zBf r.acct r.asset && !(r.free == 0 && r.held == 0) && (if r.acct = 0 then r.held == 0 else decide (0 ≤ r.free) && decide (0 ≤ r.held) && decide (r.free + r.held ≤ 1125899906842624))
def zDk (r : Row4) : Prop := (0 ≤ r.acct ∧ r.acct ≤ 64 ∧ 0 ≤ r.asset ∧ r.asset ≤ 16) ∧ ¬ (r.free = 0 ∧ r.held = 0) ∧ (r.acct = 0 → r.held = 0) ∧ (r.acct ≠ 0 → 0 ≤ r.free ∧ 0 ≤ r.held ∧ r.free + r.held ≤ 1125899906842624)
theorem zHB (r : Row4) : zNY r = true ↔ zDk r := by
 unfold zNY zDk
 rw [Bool.and_eq_true, Bool.and_eq_true, zDM]
 by_cases h : r.acct = 0
 ·simp [h]; omega
 ·simp [h]; omega
def ltR (a b : Row4) : Bool := decide (a.acct < b.acct) || (decide (a.acct = b.acct) && decide (a.asset < b.asset))
def LtR (a b : Row4) : Prop := a.acct < b.acct ∨ a.acct = b.acct ∧ a.asset < b.asset
theorem zO8 (a b : Row4) : ltR a b = true ↔ LtR a b := by simp [ltR, LtR]
def smR (l : List Row4) (a : Int) : Nat → Int
 | 0 => 0
 | k + 1 => smR l a k + if (rw_ l k).asset = a then (rw_ l k).free + (rw_ l k).held else 0
def zKv (l : List Row4) (k : Nat) : Bool := zNY (rw_ l k) && (k == 0 || ltR (rw_ l (k - 1)) (rw_ l k))
def zBa (l : List Row4) : Bool := (List.range l.length).all (fun k => zKv l k) && (List.range 17).all fun a => smR l (a : Nat) l.length == 0
def RowsP (l : List Row4) (k : Nat) : Prop := ∀ j, j < k → zDk (rw_ l j) ∧ (j = 0 ∨ LtR (rw_ l (j - 1)) (rw_ l j))
theorem zHC {l : List Row4} {k : Nat} : zKv l k = true ↔ zDk (rw_ l k) ∧ (k = 0 ∨ LtR (rw_ l (k - 1)) (rw_ l k)) := by
 unfold zKv
 rw [Bool.and_eq_true, zHB, Bool.or_eq_true, zO8]
 simp
theorem zBZ {l : List Row4} : zBa l = true ↔ RowsP l l.length ∧ ∀ a : Nat, a < 17 → smR l a l.length = 0 := by
 unfold zBa RowsP
 rw [Bool.and_eq_true, List.all_eq_true, List.all_eq_true]
 simp only [List.mem_range, zHC, beq_iff_eq]
theorem RowsP.succ {l : List Row4} {k : Nat} (h : RowsP l k) (h1 : zDk (rw_ l k)) (h2 : k = 0 ∨ LtR (rw_ l (k - 1)) (rw_ l k)) : RowsP l (k + 1) := fun j hj => by
 rcases (show j < k ∨ j = k by omega) with g | rfl
 ·exact h j g
 ·exact ⟨h1, h2⟩
theorem RowsP.lt {l : List Row4} {k : Nat} (h : RowsP l k) : ∀ {i j : Nat}, i < j → j < k → LtR (rw_ l i) (rw_ l j) := by
 intro i j hij
 induction j with
 | zero => omega
 | succ j ih =>
   intro hj
   have h2 := (h (j + 1) hj).2.resolve_left (by omega)
   rw [Nat.add_sub_cancel] at h2
   rcases (show i = j ∨ i < j by omega) with rfl | g
   ·exact h2
   ·have h1 := ih g (by omega)
    unfold LtR at *
    omega
def zR (l : List Row4) (a : Int) : Nat → Int
 | 0 => 0
 | k + 1 => zR l a k + if (rw_ l k).asset = a ∧ (rw_ l k).acct = 0 then (rw_ l k).free else 0
def pR (l : List Row4) (a : Int) : Nat → Int
 | 0 => 0
 | k + 1 => pR l a k + if (rw_ l k).asset = a ∧ (rw_ l k).acct ≠ 0 then (rw_ l k).free + (rw_ l k).held else 0
theorem zC6 {l : List Row4} {a : Int} : ∀ {k : Nat}, RowsP l k → smR l a k = zR l a k + pR l a k
 | 0, _ => rfl
 | k + 1, h => by
   have ih := zC6 (a := a) (fun j hj => h j (by omega) : RowsP l k)
   have hg := (h k (Nat.lt_succ_self k)).1.2.2.1
   simp only [smR, zR, pR, ih]
   by_cases h1 : (rw_ l k).asset = a
   ·by_cases h2 : (rw_ l k).acct = 0
    ·have := hg h2; simp [h1, h2, this]; omega
    ·simp [h1, h2]; omega
   ·simp [h1]
theorem zHD {l : List Row4} {a : Int} : ∀ {k : Nat}, RowsP l k → ∃ m : Int, 0 ≤ m ∧ m ≤ 64 ∧ 0 ≤ pR l a k ∧ pR l a k ≤ 1125899906842624 * m ∧ (m = 0 ∨ ∃ j, j < k ∧ (rw_ l j).acct = m ∧ (rw_ l j).asset = a)
 | 0, _ => ⟨0, by omega, by omega, by simp [pR], by simp [pR], .inl rfl⟩
 | k + 1, h => by
   obtain ⟨m, m1, m2, m3, m4, m5⟩ := zHD (a := a) (fun j hj => h j (by omega) : RowsP l k)
   have hg := (h k (Nat.lt_succ_self k)).1
   simp only [pR]
   by_cases h1 : (rw_ l k).asset = a ∧ (rw_ l k).acct ≠ 0
   ·rw [if_pos h1]
    obtain ⟨g1, g2, g3⟩ := hg.2.2.2 h1.2
    have hlt : m < (rw_ l k).acct := by
     rcases m5 with rfl | ⟨j, j1, j2, j3⟩
     ·have := hg.1.1; omega
     ·have := h.lt j1 (Nat.lt_succ_self k)
      unfold LtR at this
      omega
    exact ⟨(rw_ l k).acct, by omega, hg.1.2.1, by omega, by omega, .inr ⟨k, Nat.lt_succ_self k, rfl, h1.1⟩⟩
   ·rw [if_neg h1]
    exact ⟨m, m1, m2, by omega, by omega, m5.imp_right fun ⟨j, j1, j2⟩ => ⟨j, by omega, j2⟩⟩
theorem zR_no {l : List Row4} {a : Int} : ∀ {k : Nat}, (∀ j, j < k → ¬ ((rw_ l j).asset = a ∧ (rw_ l j).acct = 0)) → zR l a k = 0
 | 0, _ => rfl
 | k + 1, h => by
   simp only [zR]
   rw [zR_no (fun j hj => h j (by omega)), if_neg (h k (Nat.lt_succ_self k))]; rfl
theorem zGN {l : List Row4} {a : Int} {n j : Nat} (h : RowsP l n) (hj : j < n) (h1 : (rw_ l j).asset = a) (h2 : (rw_ l j).acct = 0) : ∀ {k : Nat}, k ≤ n → zR l a k = if j < k then (rw_ l j).free else 0
 | 0, _ => by simp [zR]
 | k + 1, hk => by
   have ih := zGN h hj h1 h2 (k := k) (by omega)
   simp only [zR, ih]
   rcases (show k < j ∨ k = j ∨ j < k by omega) with g | rfl | g
   ·have : ¬ ((rw_ l k).asset = a ∧ (rw_ l k).acct = 0) := fun ⟨q1, q2⟩ => by
     have := h.lt g hj
     unfold LtR at this
     omega
    rw [if_neg this, if_neg (by omega), if_neg (by omega)]; rfl
   ·rw [if_neg (by omega), if_pos ⟨h1, h2⟩, if_pos (by omega)]; omega
   ·have : ¬ ((rw_ l k).asset = a ∧ (rw_ l k).acct = 0) := fun ⟨q1, q2⟩ => by
     have := h.lt g (by omega)
     unfold LtR at this
     omega
    rw [if_pos g, if_neg this, if_pos (by omega)]; omega
theorem zO9 {l : List Row4} (hl : zBa l = true) {a : Nat} (ha : a < 17) {k : Nat} (hk : k ≤ l.length) : -72057594037927936 ≤ smR l a k ∧ smR l a k ≤ 72057594037927936 := by
 obtain ⟨h, h0⟩ := zBZ.1 hl
 have hk2 : RowsP l k := fun j hj => h j (by omega)
 obtain ⟨m, m1, m2, m3, m4, _⟩ := zHD (a := a) h
 obtain ⟨m', p1, p2, p3, p4, _⟩ := zHD (a := a) hk2
 have e1 := zC6 (a := a) h
 have e2 := zC6 (a := a) hk2
 rw [h0 a ha] at e1
 by_cases hz : ∃ j, j < l.length ∧ (rw_ l j).asset = a ∧ (rw_ l j).acct = 0
 ·obtain ⟨j, j1, j2, j3⟩ := hz
  have z1 := zGN h j1 j2 j3 (Nat.le_refl _)
  have z2 := zGN h j1 j2 j3 hk
  rw [if_pos j1] at z1
  split at z2 <;> omega
 ·have z2 : zR l a k = 0 := zR_no fun j hj hh => hz ⟨j, by omega, hh.1, hh.2⟩
  omega
theorem zFK {l : List Row4} (hl : zBa l = true) {j : Nat} (hj : j < l.length) (h0 : (rw_ l j).acct = 0) : -72057594037927936 ≤ (rw_ l j).free ∧ (rw_ l j).free ≤ 0 := by
 obtain ⟨h, h1⟩ := zBZ.1 hl
 have hg := (h j hj).1.1
 have ha : (rw_ l j).asset = (((rw_ l j).asset.toNat : Nat) : Int) := by omega
 obtain ⟨m, m1, m2, m3, m4, _⟩ := zHD (a := (rw_ l j).asset) h
 have e1 := zC6 (a := (rw_ l j).asset) h
 have z1 := zGN h hj rfl h0 (Nat.le_refl _)
 rw [if_pos hj] at z1
 have := h1 (rw_ l j).asset.toNat (by omega)
 rw [← ha] at this
 omega
end Go.Proofs.YtggolnppckpdlaaGreat
set_option linter.unusedSimpArgs false
set_option linter.unusedVariables false
namespace Go.Proofs.YtggolnppckpdlaaGreat
open Go Go.Sk Go.RowKit
def zHq (z : Int) : List Value := [.int .i64 (z / 18446744073709551616), .int .u64 (z % 18446744073709551616)]
theorem zLa (x y : Int) (hx : 0 ≤ x) (hy : 0 ≤ y) (w : World) : (callFunc 292 [Value.int .u64 x, Value.int .u64 y, Value.int .u64 0].toArray).run Tryz.prog w =
  .ok (.value (.tuple #[.int .u64 ((x + y + 0) % 18446744073709551616), .int .u64 ((x + y + 0) / 18446744073709551616)])) w := by
 rw [run_callFunc_extern (e := add64Entry) Tryz.func292 (by kernel_rfl) (by kernel_rfl) (by kernel_rfl) (by kernel_rfl)]
 rw [run_add64 x y 0 hx hy (Int.le_refl 0) (by omega)]
 rfl
theorem u64w (n : Int) : IntKind.u64.wrap n = n % 18446744073709551616 := rfl
theorem shr63 (n : Int) : n.fdiv (2 ^ min 63 IntKind.i64.bits) = n / 9223372036854775808 := by
 have : ((2 : Int) ^ min 63 IntKind.i64.bits) = 9223372036854775808 := by decide
 rw [this, Int.fdiv_eq_ediv_of_nonneg _ (by omega)]
theorem zLb (z n : Int) (h1 : -1267650600228229401496703205376 ≤ z) (h2 : z ≤ 1267650600228229401496703205376) (h3 : -9223372036854775808 ≤ n) (h4 : n ≤ 9223372036854775807) :
  IntKind.i64.wrap (IntKind.i64.wrap (z / 18446744073709551616 + n.fdiv (2 ^ min 63 IntKind.i64.bits)) + IntKind.i64.wrap ((z % 18446744073709551616 + IntKind.u64.wrap n + 0) / 18446744073709551616)) = (z + n) / 18446744073709551616 := by
 rw [shr63, u64w, w64 (x := z / 18446744073709551616 + n / 9223372036854775808) (by omega) (by omega), w64 (x := (z % 18446744073709551616 + n % 18446744073709551616 + 0) / 18446744073709551616) (by omega) (by omega), w64 (by omega) (by omega)]
 omega
theorem zNZ (z n : Int) : (z % 18446744073709551616 + IntKind.u64.wrap n + 0) % 18446744073709551616 = (z + n) % 18446744073709551616 := by
 rw [u64w]; omega
theorem c_plus (z n : Int) (w0 : World) (h1 : -1267650600228229401496703205376 ≤ z) (h2 : z ≤ 1267650600228229401496703205376) (h3 : -9223372036854775808 ≤ n) (h4 : n ≤ 9223372036854775807) :
  Calls Tryz.prog 262 [.agg (zHq z).toArray, .int .i64 n].toArray w0 (Ret (.agg (zHq (z + n)).toArray) w0) := by
 refine enter [.cell 4 284] Tryz.func262 rfl Tryz.ntmps262 rfl rfl ?_
 have H := zE w0
 repeat' (first | refine y1 sg ?_ | refine y3 ?_ | refine y7 sg H ?_ | (refine y9 H ?_; intro b w H) | (refine y10 sg H ?_; intro b w H) | (refine y11 sg H ?_; intro w H) | refine z13 (Yq.ext rfl rfl (zLa (z % 18446744073709551616) (IntKind.u64.wrap n) (by omega) (by rw [u64w]; omega))) ?_ | (with_reducible first | apply zB | apply zD | apply zC | apply zG) | refine zA ?_ | fail)
 refine zCj (vs := [_]) ⟨zAb sg rfl H.mem (List.Mem.head _) rfl rfl, trivial⟩ H.cl ?_
 rw [zLb z n h1 h2 h3 h4, zNZ]
 rfl
def zCZ (l : List Int) : Nat → Int
 | 0 => 0
 | k + 1 => zCZ l k + l.getD k 0
def iel (l : List Int) (j : Nat) : List Value := [.int .i64 (l.getD j 0)]
def Ints (F : zI) (a : Option Addr) (cap : Nat) (l : List Int) : Prop := SlA F 1 a l.length cap (iel l)
def I64 (l : List Int) : Prop := ∀ j, -9223372036854775808 ≤ l.getD j 0 ∧ l.getD j 0 ≤ 9223372036854775807
theorem zNa (l : List Int) (h : I64 l) (k : Nat) : -9223372036854775808 * k ≤ zCZ l k ∧ zCZ l k ≤ 9223372036854775807 * k := by
 induction k with
 | zero => exact ⟨by simp [zCZ], by simp [zCZ]⟩
 | succ k ih => have := h k; simp only [zCZ]; constructor <;> omega
def zBy (z : Int) : Int × Int := if z > 4611686018427387904 ∨ z < -4611686018427387904 then (0, 41) else (z, 0)
theorem zLc (z : Int) (h : ¬ (-9223372036854775808 ≤ z ∧ z ≤ 9223372036854775807)) : zBy z = (0, 41) := by
 rw [zBy, if_pos (by omega)]
theorem vlow (z : Int) : (z / 18446744073709551616 = (IntKind.i64.wrap (z % 18446744073709551616)).fdiv (2 ^ min 63 IntKind.i64.bits) ↔ -9223372036854775808 ≤ z ∧ z ≤ 9223372036854775807) ∧
  ((-9223372036854775808 ≤ z ∧ z ≤ 9223372036854775807) → IntKind.i64.wrap (z % 18446744073709551616) = z) := by
 rw [shr63, IntKind.wrap_i64]
 constructor
 ·constructor <;> intro h <;> omega
 ·intro h; omega
theorem c_told (z : Int) (w0 : World) :
  Calls Tryz.prog 263 [.agg (zHq z).toArray].toArray w0 (Ret (.tuple #[.int .i64 (zBy z).1, .int .i64 (zBy z).2]) w0) := by
 refine enter [.tmp 2, .tmp 3] Tryz.func263 rfl Tryz.ntmps263 rfl rfl ?_
 have H := zE w0
 repeat' (first | refine y1 sg ?_ | refine y3 ?_ | refine y5 sg ?_ | refine y7 sg H ?_ | (refine y9 H ?_; intro b w H) | refine y13 ?_ | refine y14 ?_ | (refine y17 ?_ ?_; all_goals intro h) | (with_reducible first | apply zB | apply zD | apply zC | apply zG | apply zH | apply zP) | refine zA ?_ | refine y21 ?_ | (refine y23 ?_ ?_; all_goals intro h) | fail)
 ·rw [zLc z (fun h1 => by rw [(vlow z).1.2 h1] at h; simp at h)]; exact zCC rfl rfl H.cl rfl
 all_goals
  have hz := (vlow z).1.1 (by simpa using ‹(z / 18446744073709551616 != (IntKind.i64.wrap (z % 18446744073709551616)).fdiv (2 ^ min 63 IntKind.i64.bits)) = false›)
  have hv := (vlow z).2 hz
  simp only [hv] at *
 ·exact zCC rfl rfl H.cl (by rw [zBy, if_pos (.inl (of_decide_eq_true h))])
 ·exact zCC rfl rfl H.cl (by rw [zBy, if_pos (.inr (of_decide_eq_true h))])
 ·refine zCC rfl rfl H.cl ?_
  rw [zBy, if_neg (fun hc => hc.elim (fun h3 => absurd h3 (of_decide_eq_false ‹decide (z > 4611686018427387904) = false›)) (fun h3 => absurd h3 (of_decide_eq_false ‹decide (z < -4611686018427387904) = false›)))]
theorem c_Sum {a : Option Addr} {cap : Nat} (l : List Int) (hl : I64 l) (hlen : l.length ≤ 1048576) {F : zI} (w0 : World) (hF : Mem w0 F) (hs : Ints F a cap l) :
  Calls Tryz.prog 221 [.slice a l.length cap].toArray w0 (Ret (.tuple #[.int .i64 (zBy (zCZ l l.length)).1, .int .i64 (zBy (zCZ l l.length)).2]) w0) := by
 obtain ⟨hn, hc, b0, off, cs, T, fr, hs⟩ := hs
 refine enter [.tmp 2, .tmp 3] Tryz.func221 rfl Tryz.ntmps221 rfl rfl ?_
 have H := zE w0
 repeat' (first | refine y1 sg ?_ | refine y3 ?_ | (refine y10 sg H ?_; intro b w H) | (with_reducible first | apply zB | apply zD | apply zC | apply zF) | refine zA ?_ | fail)
 refine zK [(6, 6), (9, 16)] (fun k : Nat => [(9, .int .i64 (k : Int))]) (fun k w => k ≤ l.length ∧ St w0 [cb _ (zHq (zCZ l k)) 284] w) (fun k => l.length - k) 0 ⟨rfl, trivial⟩ ⟨Nat.zero_le _, H⟩ ?_
 clear H
 rintro k g w ⟨hk, H⟩
 have hb := zNa l hl k
 have hb2 := hl k
 repeat' (first | refine y1 sg ?_ | (with_reducible first | apply zB | apply zD | apply zC) | refine zA ?_ | fail)
 refine zL rfl (fun h => ?_) (fun h => ?_)
 ·have hlt : k < l.length := by simpa using h
  repeat' (first | refine y1 sg ?_ | refine y3 ?_ | refine y7 sg H ?_ | (refine y11 sg H ?_; intro w H) | (refine y40 sg (hs) ?_ ?_ ?_; (omega); (omega)) | refine z13 (Yq.loadB1 sg hs (H.memF hF) rfl rfl rfl rfl hlt rfl) ?_ | (refine' y30 ent262 ?_ ?_; rotate_left; exact c_plus (zCZ l k) (l.getD k 0) _ (by omega) (by omega) hb2.1 hb2.2; intro w hcl; replace H := H.ext hcl; clear hcl) | (with_reducible first | apply zB | apply zD | apply zC | apply zF | apply zH) | refine zA ?_ | fail)
  refine zM (k + 1) rfl ⟨zV (by omega), trivial⟩ ⟨hlt, H⟩ (by omega)
 ·have hkn : k = l.length := by simp at h; omega
  subst hkn
  repeat' (first | refine y1 sg ?_ | refine y3 ?_ | refine y7 sg H ?_ | (refine' y30 ent263 ?_ ?_; rotate_left; exact c_told (zCZ l l.length) _; intro w hcl; replace H := H.ext hcl; clear hcl) | (with_reducible first | apply zB | apply zD | apply zC | apply zG | apply zN | apply zW) | refine zA ?_ | refine y24 ?_ | fail)
  exact zCC rfl rfl H.cl rfl
def zG0 (a b : Int) : Int × Int := zBy (a + b)
theorem Ints.two {F : zI} {b : Nat} {x y : Int} {T : TypeId} {fr : Nat × Nat} (h : (b, Obj.cells [Value.int .i64 x, Value.int .i64 y].toArray T fr) ∈ F) : Ints F (some ⟨b, 0, none⟩) 2 [x, y] :=
 ⟨Nat.le_refl _, (by show 2 ≤ 140737488355328; omega), b, 0, _, T, fr, fun _ => ⟨rfl, h, fun j hj => by
  have : j = 0 ∨ j = 1 := by simp at hj; omega
  rcases this with rfl | rfl <;> exact ⟨by simp, rfl⟩⟩⟩
theorem c_Add (x y : Int) (w0 : World) (h1 : -9223372036854775808 ≤ x) (h2 : x ≤ 9223372036854775807) (h3 : -9223372036854775808 ≤ y) (h4 : y ≤ 9223372036854775807) :
  Calls Tryz.prog 181 [.int .i64 x, .int .i64 y].toArray w0 (Ret (.tuple #[.int .i64 (zG0 x y).1, .int .i64 (zG0 x y).2]) w0) := by
 have hI : I64 [x, y] := by
  intro j
  rcases j with _ | _ | j
  ·exact ⟨h1, h2⟩
  ·exact ⟨h3, h4⟩
  ·simp
 have e : zCZ [x, y] [x, y].length = x + y := by simp [zCZ]
 refine enter [.tmp 4, .tmp 5] Tryz.func181 rfl Tryz.ntmps181 rfl rfl ?_
 have H := zE w0
 repeat' (first | refine y1 sg ?_ | refine y3 ?_ | (refine z14 sg H ?_; intro b w H) | (refine' y30 zM1 ?_ ?_; rotate_left; exact c_Sum [x, y] hI (by show 2 ≤ 1048576; omega) _ (H.mem) (Ints.two (List.Mem.head _)); intro w hcl; replace H := H.ext hcl; clear hcl) | (with_reducible first | apply zB | apply zD | apply zC | apply zG) | refine zA ?_ | fail)
 refine zCC rfl rfl H.cl ?_
 rw [e]; rfl
end Go.Proofs.YtggolnppckpdlaaGreat
