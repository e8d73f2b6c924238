/- Texts of ours, joined: the steps of the proof, or the claim's theorem. -/
import Derived.Test.YtggolnppckpdlaaGreatQ08
set_option linter.unusedSimpArgs false
set_option linter.unusedVariables false
namespace Go.Proofs.YtggolnppckpdlaaGreat
open Go Go.Sk Go.RowKit
theorem und26 : Tryz.prog.underlying 78 = some (.struct (Tryz.prog.fieldsOf 78)) := by kernel_rfl
theorem fs26 : (Tryz.prog.fieldsOf 78).toList = [⟨ "Acct", 3, 0, false, "", "", 0⟩, ⟨ "Amount", 2, 1, false, "", "", 8⟩] := by kernel_rfl
theorem st26 : Tryz.prog.stoodInHeld 78 = false := by kernel_rfl
theorem eg26 : Tryz.prog.eqGuardType Tryz.prog.depth 78 = false := by kernel_rfl
theorem run_eqBid (c d : Bid) (w : World) : (Op.equalIn 10000 78 (.agg c.cells.toArray) (.agg d.cells.toArray)).run Tryz.prog w = .ok (c == d) w := by
  rw [show (10000 : Nat) = 9999 + 1 from rfl, run_equalIn_struct w 9999 _ _ _ und26 st26, fs26]
  have p0 : ∀ (b : Bid) (w : World), (part 3 b.cells.toArray 0).run Tryz.prog w = .ok (.int .i64 b.acct) w := fun b w => part_ok sg (ti := ⟨.int .i64, 1, [.int .i64 0], 8⟩) rfl _ _ rfl w
  have p1 : ∀ (b : Bid) (w : World), (part 2 b.cells.toArray 1).run Tryz.prog w = .ok (.int .i64 b.amount) w := fun b w => part_ok sg (ti := ⟨.int .i64, 1, [.int .i64 0], 8⟩) rfl _ _ rfl w
  have q3 : ∀ (x y : Int) (w : World), (Op.equalIn 9999 3 (.int .i64 x) (.int .i64 y)).run Tryz.prog w = .ok (x == y) w := fun x y w => run_equalIn_int w 9998 _ .i64 .i64 x y Tryz.underlying3
  have q2 : ∀ (x y : Int) (w : World), (Op.equalIn 9999 2 (.int .i64 x) (.int .i64 y)).run Tryz.prog w = .ok (x == y) w := fun x y w => run_equalIn_int w 9998 _ .i64 .i64 x y Tryz.underlying2
  have n0 : ("Acct" ≠ "_") := by decide
  have n1 : ("Amount" ≠ "_") := by decide
  simp only [Op.eqFields, n0, n1, ne_eq, not_false_eq_true, if_true, Sem.run_bind, p0, q3, Result.andThen_ok]
  obtain ⟨a, b⟩ := c
  obtain ⟨x, y⟩ := d
  simp only []
  by_cases h1 : a = x
  · by_cases h2 : b = y
    · simp [h1, h2, p1, q2]
    · simp [h1, h2, p1, q2]
  · simp [h1]
theorem Yq.neqBid {o : Oper} {e : Env} {w : World} {x y : Operand} {yT : TypeId} (c d : Bid) (ho : o.op = .binOp .neq 78 x y yT) (hx : nf (ev e x) = some (.agg c.cells.toArray)) (hy : nf (ev e y) = some (.agg d.cells.toArray)) :
    Yq Tryz.prog o e w (.bool (!(c == d))) := by
  have hx := nf_eq hx
  have hy := nf_eq hy
  refine Yq.of fun w' => ?_
  simp only [execOp, ho, hx, hy, Sem.run_bind, run_eqGuard_agg w' _ _ _ _ _ _ eg26, Result.andThen_ok, run_neq_struct, run_eqBid, Sem.run_pure]
theorem c_EqualBid {a a' : Option Addr} {cap cap' : Nat} (l l' : List Bid) {F : Frag} (w0 : World) (hF : Mem w0 F) (hs : Bids F a cap l) (hs' : Bids F a' cap' l') :
    Calls Tryz.prog 119 [.slice a l.length cap, .slice a' l'.length cap'].toArray w0 (Ret (.bool (decide (l = l'))) w0) := by
  obtain ⟨hn, hc, b, off, cs, T, fr, hs⟩ := hs
  obtain ⟨hn', hc', b', off', cs', T', fr', hs'⟩ := hs'
  refine enter [.tmp 4] Tryz.func119 rfl Tryz.ntmps119 rfl rfl ?_
  have H := St.start w0
  repeat' (first | refine y1 sg ?_ | with_reducible apply OW.nil | with_reducible apply thn_n | with_reducible apply CW.seq | refine CW.region ?_ | fail)
  refine CW.cond rfl (fun h => ?_) (fun h => ?_)
  · repeat' (first | refine y1 sg ?_ | with_reducible apply OW.nil | with_reducible apply thn_n | with_reducible apply CW.seq | refine CW.region ?_ | with_reducible apply CW.ret | with_reducible apply thn_r | fail)
    exact ret1 rfl H.cl (by
      have : l ≠ l' := fun he => by subst he; simp at h
      simp [this])
  · have hlen : l.length = l'.length := by simp at h; omega
    repeat' (first | refine y1 sg ?_ | with_reducible apply OW.nil | with_reducible apply thn_n | with_reducible apply CW.seq | refine CW.region ?_ | with_reducible apply CW.block | with_reducible apply CW.skip | fail)
    refine CW.loopI [(4, 5), (13, 25)] (fun k : Nat => [(13, .int .i64 (k : Int))]) (fun k w => k ≤ l.length ∧ (∀ j, j < k → l.getD j default = l'.getD j default) ∧ St w0 [] w) (fun k => l.length - k) 0 ⟨rfl, trivial⟩ ⟨Nat.zero_le _, fun j hj => by omega, H⟩ ?_
    clear H
    rintro k g w ⟨hk, hpk, H⟩
    repeat' (first | refine y1 sg ?_ | with_reducible apply OW.nil | with_reducible apply thn_n | with_reducible apply CW.seq | refine CW.region ?_ | fail)
    refine CW.cond rfl (fun h => ?_) (fun h => ?_)
    · have hlt : k < l.length := by simpa using h
      repeat' (first | refine y1 sg ?_ | refine y2 sg ?_ | refine y4 ?_ | (refine y41 sg (hs) ?_ ?_ ?_; (omega); (omega)) | (refine y41 sg (hs') ?_ ?_ ?_; (omega); (omega)) | (refine y43 sg (hs) ((H.memF hF)) ?_ ?_; (omega)) | (refine y43 sg (hs') ((H.memF hF)) ?_ ?_; (omega)) | (refine QX.val rfl rfl (Yq.neqBid (l.getD k default) (l'.getD k default) rfl rfl rfl) ?_) | with_reducible apply OW.nil | (with_reducible apply QW.nil; intro w hcl; replace H := H.ext hcl; clear hcl) | with_reducible apply thn_n | with_reducible apply CW.seq | refine CW.region ?_ | refine y20 mixed ?_ | with_reducible apply CW.block | with_reducible apply CW.skip | fail)
      refine CW.cond rfl (fun h2 => ?_) (fun h2 => ?_)
      · repeat' (first | refine y1 sg ?_ | with_reducible apply OW.nil | with_reducible apply thn_n | with_reducible apply CW.seq | refine CW.region ?_ | with_reducible apply CW.ret | with_reducible apply thn_r | with_reducible apply blk_r | fail)
        exact ret1 rfl H.cl (by
          have : l ≠ l' := fun he => by subst he; simp at h2
          simp [this])
      · repeat' (first | refine y1 sg ?_ | with_reducible apply OW.nil | with_reducible apply thn_n | refine CW.region ?_ | with_reducible apply CW.skip | fail)
        refine Again.mk (k + 1) rfl ⟨vsucc (by omega), trivial⟩ ⟨hlt, fun j hj => ?_, H⟩ (by omega)
        by_cases hj' : j = k
        · rw [hj']; simpa using h2
        · exact hpk j (by omega)
    · repeat' (first | refine y1 sg ?_ | with_reducible apply OW.nil | with_reducible apply thn_n | with_reducible apply CW.seq | refine CW.region ?_ | with_reducible apply CW.ret | with_reducible apply CW.exit | with_reducible apply thn_e | refine y24 ?_ | fail)
      have hkn : k = l.length := by simp at h; omega
      subst hkn
      exact ret1 rfl H.cl (by
        have : l = l' := List.ext_getElem hlen fun j h1 h2 => by
          have := hpk j h1
          simpa [List.getD, h1, h2] using this
        simp [this])
def hiTo (l : List Bid) : Nat → Int
  | 0 => -1
  | k + 1 => if hiTo l k < 0 ∨ (l.getD k default).amount > (l.getD (hiTo l k).toNat default).amount then (k : Int) else hiTo l k
def hi (l : List Bid) : Int := hiTo l l.length
end Go.Proofs.YtggolnppckpdlaaGreat
