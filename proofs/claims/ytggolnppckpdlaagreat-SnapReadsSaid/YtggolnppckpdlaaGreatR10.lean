/- Texts of ours, joined: the steps of the proof, or the claim's theorem. -/
import Derived.Test.YtggolnppckpdlaaGreatR06
set_option linter.unusedSimpArgs false
set_option linter.unusedVariables false
namespace Go.Proofs.YtggolnppckpdlaaGreat
open Go Go.Sk Go.RowKit
theorem und26 : Tryz.prog.underlying 78 = some (.struct (Tryz.prog.fieldsOf 78)) := by kernel_rfl
theorem fs26 : (Tryz.prog.fieldsOf 78).toList = [⟨ "Acct", 3, 0, false, "", "", 0⟩, ⟨ "Amount", 2, 1, false, "", "", 8⟩] := by kernel_rfl
theorem st26 : Tryz.prog.stoodInHeld 78 = false := by kernel_rfl
theorem eg26 : Tryz.prog.eqGuardType Tryz.prog.depth 78 = false := by kernel_rfl
theorem zLl (c d : Bid) (w : World) : (Op.equalIn 10000 78 (.agg c.cells.toArray) (.agg d.cells.toArray)).run Tryz.prog w = .ok (c == d) w := by
 rw [show (10000 : Nat) = 9999 + 1 from rfl, run_equalIn_struct w 9999 _ _ _ und26 st26, fs26]
 have p0 : ∀ (b : Bid) (w : World), (part 3 b.cells.toArray 0).run Tryz.prog w = .ok (.int .i64 b.acct) w := fun b w => zC2 sg (ti := ⟨.int .i64, 1, [.int .i64 0], 8⟩) rfl _ _ rfl w
 have p1 : ∀ (b : Bid) (w : World), (part 2 b.cells.toArray 1).run Tryz.prog w = .ok (.int .i64 b.amount) w := fun b w => zC2 sg (ti := ⟨.int .i64, 1, [.int .i64 0], 8⟩) rfl _ _ rfl w
 have q3 : ∀ (x y : Int) (w : World), (Op.equalIn 9999 3 (.int .i64 x) (.int .i64 y)).run Tryz.prog w = .ok (x == y) w := fun x y w => run_equalIn_int w 9998 _ .i64 .i64 x y Tryz.underlying3
 have q2 : ∀ (x y : Int) (w : World), (Op.equalIn 9999 2 (.int .i64 x) (.int .i64 y)).run Tryz.prog w = .ok (x == y) w := fun x y w => run_equalIn_int w 9998 _ .i64 .i64 x y Tryz.underlying2
 have n0 : ("Acct" ≠ "_") := by decide
 have n1 : ("Amount" ≠ "_") := by decide
 simp only [Op.eqFields, n0, n1, ne_eq, not_false_eq_true, if_true, Sem.run_bind, p0, q3, Result.andThen_ok]
 obtain ⟨a, b⟩ := c
 obtain ⟨x, y⟩ := d
 simp only []
 by_cases h1 : a = x
 ·by_cases h2 : b = y
  ·simp [h1, h2, p1, q2]
  ·simp [h1, h2, p1, q2]
 ·simp [h1]
theorem Yq.neqBid {o : Oper} {e : Env} {w : World} {x y : Operand} {yT : TypeId} (c d : Bid) (ho : o.op = .binOp .neq 78 x y yT) (hx : nf (ev e x) = some (.agg c.cells.toArray)) (hy : nf (ev e y) = some (.agg d.cells.toArray)) :
  Yq Tryz.prog o e w (.bool (!(c == d))) := by
 have hx := zB3 hx
 have hy := zB3 hy
 refine Yq.of fun w' => ?_
 simp only [execOp, ho, hx, hy, Sem.run_bind, run_eqGuard_agg w' _ _ _ _ _ _ eg26, Result.andThen_ok, run_neq_struct, zLl, Sem.run_pure]
theorem zJf {a a' : Option Addr} {cap cap' : Nat} (l l' : List Bid) {F : zI} (w0 : World) (hF : Mem w0 F) (hs : Bids F a cap l) (hs' : Bids F a' cap' l') :
  Calls Tryz.prog 119 [.slice a l.length cap, .slice a' l'.length cap'].toArray w0 (Ret (.bool (decide (l = l'))) w0) := by
 obtain ⟨hn, hc, b, off, cs, T, fr, hs⟩ := hs
 obtain ⟨hn', hc', b', off', cs', T', fr', hs'⟩ := hs'
 refine enter [.tmp 4] Tryz.func119 rfl Tryz.ntmps119 rfl rfl ?_
 have H := zH w0
 repeat' (first | refine y1 sg ?_ | (with_reducible first | apply zB | apply zD | apply zC) | refine zA ?_ | fail)
 refine zM rfl (fun h => ?_) (fun h => ?_)
 ·repeat' (first | refine y1 sg ?_ | (with_reducible first | apply zB | apply zD | apply zC | apply zF | apply zO) | refine zA ?_ | fail)
  exact zQ rfl H.cl (by
   have : l ≠ l' := fun he => by subst he; simp at h
   simp [this])
 ·have hlen : l.length = l'.length := by simp at h; omega
  repeat' (first | refine y1 sg ?_ | (with_reducible first | apply zB | apply zD | apply zC | apply zE | apply zG) | refine zA ?_ | fail)
  refine zK [(4, 5), (13, 25)] (fun k : Nat => [(13, .int .i64 (k : Int))]) (fun k w => k ≤ l.length ∧ (∀ j, j < k → l.getD j default = l'.getD j default) ∧ St w0 [] w) (fun k => l.length - k) 0 ⟨rfl, trivial⟩ ⟨Nat.zero_le _, fun j hj => by omega, H⟩ ?_
  clear H
  rintro k g w ⟨hk, hpk, H⟩
  repeat' (first | refine y1 sg ?_ | (with_reducible first | apply zB | apply zD | apply zC) | refine zA ?_ | fail)
  refine zM rfl (fun h => ?_) (fun h => ?_)
  ·have hlt : k < l.length := by simpa using h
   repeat' (first | refine y1 sg ?_ | refine y2 sg ?_ | refine y4 ?_ | (refine y41 sg (hs) ?_ ?_ ?_; (omega); (omega)) | (refine y41 sg (hs') ?_ ?_ ?_; (omega); (omega)) | (refine y43 sg (hs) ((H.memF hF)) ?_ ?_; (omega)) | (refine y43 sg (hs') ((H.memF hF)) ?_ ?_; (omega)) | (refine zo rfl rfl (Yq.neqBid (l.getD k default) (l'.getD k default) rfl rfl rfl) ?_) | (with_reducible first | apply zB | apply zD | apply zC | apply zE | apply zG) | (with_reducible apply zV; intro w hcl; replace H := H.ext hcl; clear hcl) | refine zA ?_ | refine y20 mixed ?_ | fail)
   refine zM rfl (fun h2 => ?_) (fun h2 => ?_)
   ·repeat' (first | refine y1 sg ?_ | (with_reducible first | apply zB | apply zD | apply zC | apply zF | apply zO | apply zW) | refine zA ?_ | fail)
    exact zQ rfl H.cl (by
     have : l ≠ l' := fun he => by subst he; simp at h2
     simp [this])
   ·repeat' (first | refine y1 sg ?_ | (with_reducible first | apply zB | apply zD | apply zG) | refine zA ?_ | fail)
    refine zJ (k + 1) rfl ⟨zT (by omega), trivial⟩ ⟨hlt, fun j hj => ?_, H⟩ (by omega)
    by_cases hj' : j = k
    ·rw [hj']; simpa using h2
    ·exact hpk j (by omega)
  ·repeat' (first | refine y1 sg ?_ | (with_reducible first | apply zB | apply zD | apply zC | apply zF | apply zL | apply zS) | refine zA ?_ | refine y24 ?_ | fail)
   have hkn : k = l.length := by simp at h; omega
   subst hkn
   exact zQ rfl H.cl (by
    have : l = l' := List.ext_getElem hlen fun j h1 h2 => by
     have := hpk j h1
     simpa [List.getD, h1, h2] using this
    simp [this])
def hiTo (l : List Bid) : Nat → Int
 | 0 => -1
 | k + 1 => if hiTo l k < 0 ∨ (l.getD k default).amount > (l.getD (hiTo l k).toNat default).amount then (k : Int) else hiTo l k
def hi (l : List Bid) : Int := hiTo l l.length
end Go.Proofs.YtggolnppckpdlaaGreat
set_option linter.unusedSimpArgs false
set_option linter.unusedVariables false
namespace Go.Proofs.YtggolnppckpdlaaGreat
open Go Go.Sk Go.RowKit
def zA6 (x : Auc) (j : Nat) : Bool :=
 !zp (x.bids.getD j default).acct 64 || (x.bids.getD j default).acct == x.seller || !zp (x.bids.getD j default).amount 1125899906842624 ||
  decide (idx (fun i => (x.bids.getD i default).acct == (x.bids.getD j default).acct) j ≥ 0)
def zCA (x : Auc) : Bool := decide (idx (zA6 x) x.bids.length < 0)
theorem Bids.cut {F : zI} {a : Option Addr} {cap n b off : Nat} {cs : List Value} {T : TypeId} {fr : Nat × Nat} {el : Nat → List Value} (h1 : n ≤ cap) (h2 : n ≤ 140737488355328) (h : SlB F 2 a n b off cs T fr el) {m : Nat} (hm : m ≤ n) : SlA F 2 a m cap el :=
 ⟨by omega, by omega, b, off, cs, T, fr, h.cut hm⟩
theorem zNc {a : Option Addr} {cap : Nat} (x : Auc) {F : zI} (w0 : World) (hF : Mem w0 F) (hs : Bids F a cap x.bids) :
  Calls Tryz.prog 300 [.agg (x.cells a cap).toArray].toArray w0 (Ret (.bool (zCA x)) w0) := by
 obtain ⟨hn, hc, b0, off, cs, T, fr, hs⟩ := hs
 refine enter [.tmp 2] Tryz.func300 rfl Tryz.ntmps300 rfl rfl ?_
 have H := zH w0
 repeat' (first | refine y1 sg ?_ | refine y3 ?_ | refine y7 sg H ?_ | (refine y9 H ?_; intro b w H) | (with_reducible first | apply zB | apply zD | apply zC | apply zE) | refine zA ?_ | fail)
 refine zK [(2, 5), (9, 40)] (fun k : Nat => [(9, .int .i64 (k : Int))]) (fun k w => k ≤ x.bids.length ∧ (∀ j, j < k → zA6 x j = false) ∧ St w0 [cb b (x.cells a cap) 81] w) (fun k => x.bids.length - k) 0 ⟨rfl, trivial⟩ ⟨Nat.zero_le _, fun j hj => by omega, H⟩ ?_
 clear H
 rintro k g w ⟨hk, hpk, H⟩
 repeat' (first | refine y1 sg ?_ | (with_reducible first | apply zB | apply zD | apply zC) | refine zA ?_ | fail)
 refine zM rfl (fun h => ?_) (fun h => ?_)
 ·have hlt : k < x.bids.length := by simpa using h
  repeat' (first | refine y1 sg ?_ | refine y3 ?_ | refine y5 sg ?_ | refine y7 sg H ?_ | (refine y10 sg H ?_; intro b w H) | (refine y11 sg H ?_; intro w H) | (refine y40 sg (hs) ?_ ?_ ?_; (omega); (omega)) | (refine y42 sg (hs) ((H.memF hF)) ?_ ?_; (omega)) | (refine' y30 zJT ?_ ?_; rotate_left; exact zEu _ _ _; intro w hcl; replace H := H.ext hcl; clear hcl) | (refine' y30 zHX ?_ ?_; rotate_left; exact zC8 _ _ _; intro w hcl; replace H := H.ext hcl; clear hcl) | (refine zY rfl rfl (Yq.sliceHi sg rfl rfl rfl rfl rfl rfl (Int.toNat_natCast _) (by omega) (by omega)) ?_) | (refine OX.call rfl rfl (En.fn zM5 rfl rfl) (zDu (caps := [.pointer (some ⟨_, 0, none⟩)]) (fun i => (x.bids.getD i default).acct == (x.bids.getD k default).acct) _ (H.all hF) (Bids.cut hn hc (hs.mono (List.subset_append_right _ _)) (Nat.le_of_lt hlt)) ent311 (fun j hj w hw => zPG (x.bids.getD j default) (x.bids.getD k default) 78 _ _ _ (H.ext hw).mem (List.Mem.head _))) ?_; intro w hcl; replace H := H.ext hcl; clear hcl) | refine y13 ?_ | refine y14 ?_ | (refine y17 ?_ ?_; all_goals intro h) | (with_reducible first | apply zB | apply zD | apply zC | apply zE | apply zF | apply zG | apply zO | apply zW) | refine zA ?_ | refine y21 ?_ | (refine y23 ?_ ?_; all_goals intro h) | fail)
  all_goals first
   | exact zQ rfl H.cl (by
     have hbad : zA6 x k = true := by simp only [zA6, *]; simp
     rw [zCA, zA5 hlt hpk hbad]; simp)
   | (refine zJ (k + 1) rfl ⟨zT (by omega), trivial⟩ ⟨hlt, fun j hj => ?_, H.sub (List.sublist_cons_self _ _)⟩ (by omega)
      by_cases hj' : j = k
      ·have hbad : zA6 x k = false := by simp only [zA6, *]; simp
       rw [hj']; exact hbad
      ·exact hpk j (by omega))
 ·repeat' (first | refine y1 sg ?_ | (with_reducible first | apply zB | apply zD | apply zC | apply zF | apply zL | apply zS) | refine zA ?_ | refine y24 ?_ | fail)
  have hkn : k = x.bids.length := by simp at h; omega
  subst hkn
  exact zQ rfl H.cl (by rw [zCA, zAm hpk]; rfl)
end Go.Proofs.YtggolnppckpdlaaGreat
