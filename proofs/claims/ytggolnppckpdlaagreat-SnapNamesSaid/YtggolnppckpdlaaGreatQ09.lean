/- Texts of ours, joined: the steps of the proof, or the claim's theorem. -/
import Derived.Test.YtggolnppckpdlaaGreatQ03
import Derived.Test.YtggolnppckpdlaaGreatQ08
set_option linter.unusedSimpArgs false
set_option linter.unusedVariables false
namespace Go.Proofs.YtggolnppckpdlaaGreat
open Go Go.Sk Go.RowKit
theorem c_IndexOrd {n cap : Nat} {a : Option Addr} {el : Nat → List Value} {f : FuncId} {caps : List Value} {F : Frag} (p : Nat → Bool) (w0 : World) (hF : Mem w0 F) (hs : SlA F 6 a n cap el) (hf : Ent Tryz.prog f)
    (hp : ∀ j, j < n → ∀ w, Cl w0 w → Calls Tryz.prog f ([Value.agg (el j).toArray] ++ caps).toArray w (Ret (.bool (p j)) w)) :
    Calls Tryz.prog 281 [.slice a n cap, .func (.func f) #[] caps.toArray].toArray w0 (Ret (.int .i64 (idx p n)) w0) := by
  obtain ⟨hn, hc, b, off, cs, T, fr, hs⟩ := hs
  refine enter [.tmp 4] Tryz.func281 rfl Tryz.ntmps281 rfl rfl ?_
  have H := St.start w0
  repeat' (first | refine y1 sg ?_ | with_reducible apply OW.nil | with_reducible apply thn_n | with_reducible apply CW.seq | refine CW.region ?_ | with_reducible apply CW.block | fail)
  refine CW.loopI [(4, 5), (8, 18)] (fun k : Nat => [(8, .int .i64 (k : Int))]) (fun k w => k ≤ n ∧ (∀ j, j < k → p j = false) ∧ St w0 [] w) (fun k => n - k) 0 ⟨rfl, trivial⟩ ⟨Nat.zero_le _, fun j hj => by omega, H⟩ ?_
  clear H
  rintro k g w ⟨hk, hpk, H⟩
  repeat' (first | refine y1 sg ?_ | with_reducible apply OW.nil | with_reducible apply thn_n | with_reducible apply CW.seq | refine CW.region ?_ | fail)
  refine CW.cond rfl (fun h => ?_) (fun h => ?_)
  · have hlt : k < n := by simpa using h
    repeat' (first | refine y1 sg ?_ | refine y3 ?_ | (refine OX.val rfl rfl (Yq.ixB sg hs rfl rfl rfl rfl rfl rfl rfl rfl (by omega) (by omega)) ?_) | (refine OX.val rfl rfl (Yq.loadB sg hs (H.memF hF) rfl rfl rfl rfl rfl hlt) ?_) | (refine OX.call rfl rfl (En.cloV hf rfl rfl rfl) (hp k hlt _ H.cl) ?_; intro w hcl; replace H := H.ext hcl; clear hcl) | with_reducible apply OW.nil | with_reducible apply thn_n | with_reducible apply CW.seq | refine CW.region ?_ | with_reducible apply CW.block | with_reducible apply CW.skip | fail)
    refine CW.cond rfl (fun h2 => ?_) (fun h2 => ?_)
    · repeat' (first | refine y1 sg ?_ | with_reducible apply OW.nil | with_reducible apply thn_n | with_reducible apply CW.seq | refine CW.region ?_ | with_reducible apply CW.ret | with_reducible apply thn_r | with_reducible apply blk_r | fail)
      exact ret1 rfl H.cl (by rw [idx_hit hlt hpk h2])
    · repeat' (first | refine y1 sg ?_ | with_reducible apply OW.nil | with_reducible apply thn_n | refine CW.region ?_ | with_reducible apply CW.skip | fail)
      refine Again.mk (k + 1) rfl ⟨vsucc (by omega), trivial⟩ ⟨hlt, fun j hj => ?_, H⟩ (by omega)
      by_cases hj' : j = k
      · rw [hj', h2]
      · exact hpk j (by omega)
  · repeat' (first | refine y1 sg ?_ | with_reducible apply OW.nil | with_reducible apply thn_n | with_reducible apply CW.seq | refine CW.region ?_ | with_reducible apply CW.ret | with_reducible apply CW.exit | with_reducible apply thn_e | refine y24 ?_ | fail)
    have hkn : k = n := by simp at h; omega
    exact ret1 rfl H.cl (by rw [idx_miss (hkn ▸ hpk)])
theorem c_ContainsOrd {n cap : Nat} {a : Option Addr} {el : Nat → List Value} {f : FuncId} {caps : List Value} {F : Frag} (p : Nat → Bool) (w0 : World) (hF : Mem w0 F) (hs : SlA F 6 a n cap el) (hf : Ent Tryz.prog f)
    (hp : ∀ j, j < n → ∀ w, Cl w0 w → Calls Tryz.prog f ([Value.agg (el j).toArray] ++ caps).toArray w (Ret (.bool (p j)) w)) :
    Calls Tryz.prog 241 [.slice a n cap, .func (.func f) #[] caps.toArray].toArray w0 (Ret (.bool (decide (idx p n ≥ 0))) w0) := by
  refine enter [.tmp 4] Tryz.func241 rfl Tryz.ntmps241 rfl rfl ?_
  have H := St.start w0
  repeat' (first | refine y1 sg ?_ | refine y3 ?_ | (refine' y30 ent281 ?_ ?_; rotate_left; exact c_IndexOrd p _ (H.memF hF) hs hf (fun j hj w' hw' => hp j hj w' (H.cl.trans hw')); intro w hcl; replace H := H.ext hcl; clear hcl) | with_reducible apply OW.nil | with_reducible apply thn_n | with_reducible apply CW.seq | refine CW.region ?_ | with_reducible apply CW.ret | fail)
  all_goals exact ret1 rfl H.cl rfl
theorem c_IndexRow {n cap : Nat} {a : Option Addr} {el : Nat → List Value} {f : FuncId} {caps : List Value} {F : Frag} (p : Nat → Bool) (w0 : World) (hF : Mem w0 F) (hs : SlA F 4 a n cap el) (hf : Ent Tryz.prog f)
    (hp : ∀ j, j < n → ∀ w, Cl w0 w → Calls Tryz.prog f ([Value.agg (el j).toArray] ++ caps).toArray w (Ret (.bool (p j)) w)) :
    Calls Tryz.prog 277 [.slice a n cap, .func (.func f) #[] caps.toArray].toArray w0 (Ret (.int .i64 (idx p n)) w0) := by
  obtain ⟨hn, hc, b, off, cs, T, fr, hs⟩ := hs
  refine enter [.tmp 4] Tryz.func277 rfl Tryz.ntmps277 rfl rfl ?_
  have H := St.start w0
  repeat' (first | refine y1 sg ?_ | with_reducible apply OW.nil | with_reducible apply thn_n | with_reducible apply CW.seq | refine CW.region ?_ | with_reducible apply CW.block | fail)
  refine CW.loopI [(4, 5), (8, 18)] (fun k : Nat => [(8, .int .i64 (k : Int))]) (fun k w => k ≤ n ∧ (∀ j, j < k → p j = false) ∧ St w0 [] w) (fun k => n - k) 0 ⟨rfl, trivial⟩ ⟨Nat.zero_le _, fun j hj => by omega, H⟩ ?_
  clear H
  rintro k g w ⟨hk, hpk, H⟩
  repeat' (first | refine y1 sg ?_ | with_reducible apply OW.nil | with_reducible apply thn_n | with_reducible apply CW.seq | refine CW.region ?_ | fail)
  refine CW.cond rfl (fun h => ?_) (fun h => ?_)
  · have hlt : k < n := by simpa using h
    repeat' (first | refine y1 sg ?_ | refine y3 ?_ | (refine OX.val rfl rfl (Yq.ixB sg hs rfl rfl rfl rfl rfl rfl rfl rfl (by omega) (by omega)) ?_) | (refine OX.val rfl rfl (Yq.loadB sg hs (H.memF hF) rfl rfl rfl rfl rfl hlt) ?_) | (refine OX.call rfl rfl (En.cloV hf rfl rfl rfl) (hp k hlt _ H.cl) ?_; intro w hcl; replace H := H.ext hcl; clear hcl) | with_reducible apply OW.nil | with_reducible apply thn_n | with_reducible apply CW.seq | refine CW.region ?_ | with_reducible apply CW.block | with_reducible apply CW.skip | fail)
    refine CW.cond rfl (fun h2 => ?_) (fun h2 => ?_)
    · repeat' (first | refine y1 sg ?_ | with_reducible apply OW.nil | with_reducible apply thn_n | with_reducible apply CW.seq | refine CW.region ?_ | with_reducible apply CW.ret | with_reducible apply thn_r | with_reducible apply blk_r | fail)
      exact ret1 rfl H.cl (by rw [idx_hit hlt hpk h2])
    · repeat' (first | refine y1 sg ?_ | with_reducible apply OW.nil | with_reducible apply thn_n | refine CW.region ?_ | with_reducible apply CW.skip | fail)
      refine Again.mk (k + 1) rfl ⟨vsucc (by omega), trivial⟩ ⟨hlt, fun j hj => ?_, H⟩ (by omega)
      by_cases hj' : j = k
      · rw [hj', h2]
      · exact hpk j (by omega)
  · repeat' (first | refine y1 sg ?_ | with_reducible apply OW.nil | with_reducible apply thn_n | with_reducible apply CW.seq | refine CW.region ?_ | with_reducible apply CW.ret | with_reducible apply CW.exit | with_reducible apply thn_e | refine y24 ?_ | fail)
    have hkn : k = n := by simp at h; omega
    exact ret1 rfl H.cl (by rw [idx_miss (hkn ▸ hpk)])
theorem c_ContainsRow {n cap : Nat} {a : Option Addr} {el : Nat → List Value} {f : FuncId} {caps : List Value} {F : Frag} (p : Nat → Bool) (w0 : World) (hF : Mem w0 F) (hs : SlA F 4 a n cap el) (hf : Ent Tryz.prog f)
    (hp : ∀ j, j < n → ∀ w, Cl w0 w → Calls Tryz.prog f ([Value.agg (el j).toArray] ++ caps).toArray w (Ret (.bool (p j)) w)) :
    Calls Tryz.prog 237 [.slice a n cap, .func (.func f) #[] caps.toArray].toArray w0 (Ret (.bool (decide (idx p n ≥ 0))) w0) := by
  refine enter [.tmp 4] Tryz.func237 rfl Tryz.ntmps237 rfl rfl ?_
  have H := St.start w0
  repeat' (first | refine y1 sg ?_ | refine y3 ?_ | (refine' y30 ent277 ?_ ?_; rotate_left; exact c_IndexRow p _ (H.memF hF) hs hf (fun j hj w' hw' => hp j hj w' (H.cl.trans hw')); intro w hcl; replace H := H.ext hcl; clear hcl) | with_reducible apply OW.nil | with_reducible apply thn_n | with_reducible apply CW.seq | refine CW.region ?_ | with_reducible apply CW.ret | fail)
  all_goals exact ret1 rfl H.cl rfl
theorem c_IndexLot {n cap : Nat} {a : Option Addr} {el : Nat → List Value} {f : FuncId} {caps : List Value} {F : Frag} (p : Nat → Bool) (w0 : World) (hF : Mem w0 F) (hs : SlA F 4 a n cap el) (hf : Ent Tryz.prog f)
    (hp : ∀ j, j < n → ∀ w, Cl w0 w → Calls Tryz.prog f ([Value.agg (el j).toArray] ++ caps).toArray w (Ret (.bool (p j)) w)) :
    Calls Tryz.prog 220 [.slice a n cap, .func (.func f) #[] caps.toArray].toArray w0 (Ret (.int .i64 (idx p n)) w0) := by
  obtain ⟨hn, hc, b, off, cs, T, fr, hs⟩ := hs
  refine enter [.tmp 4] Tryz.func220 rfl Tryz.ntmps220 rfl rfl ?_
  have H := St.start w0
  repeat' (first | refine y1 sg ?_ | with_reducible apply OW.nil | with_reducible apply thn_n | with_reducible apply CW.seq | refine CW.region ?_ | with_reducible apply CW.block | fail)
  refine CW.loopI [(4, 5), (8, 18)] (fun k : Nat => [(8, .int .i64 (k : Int))]) (fun k w => k ≤ n ∧ (∀ j, j < k → p j = false) ∧ St w0 [] w) (fun k => n - k) 0 ⟨rfl, trivial⟩ ⟨Nat.zero_le _, fun j hj => by omega, H⟩ ?_
  clear H
  rintro k g w ⟨hk, hpk, H⟩
  repeat' (first | refine y1 sg ?_ | with_reducible apply OW.nil | with_reducible apply thn_n | with_reducible apply CW.seq | refine CW.region ?_ | fail)
  refine CW.cond rfl (fun h => ?_) (fun h => ?_)
  · have hlt : k < n := by simpa using h
    repeat' (first | refine y1 sg ?_ | refine y3 ?_ | (refine OX.val rfl rfl (Yq.ixB sg hs rfl rfl rfl rfl rfl rfl rfl rfl (by omega) (by omega)) ?_) | (refine OX.val rfl rfl (Yq.loadB sg hs (H.memF hF) rfl rfl rfl rfl rfl hlt) ?_) | (refine OX.call rfl rfl (En.cloV hf rfl rfl rfl) (hp k hlt _ H.cl) ?_; intro w hcl; replace H := H.ext hcl; clear hcl) | with_reducible apply OW.nil | with_reducible apply thn_n | with_reducible apply CW.seq | refine CW.region ?_ | with_reducible apply CW.block | with_reducible apply CW.skip | fail)
    refine CW.cond rfl (fun h2 => ?_) (fun h2 => ?_)
    · repeat' (first | refine y1 sg ?_ | with_reducible apply OW.nil | with_reducible apply thn_n | with_reducible apply CW.seq | refine CW.region ?_ | with_reducible apply CW.ret | with_reducible apply thn_r | with_reducible apply blk_r | fail)
      exact ret1 rfl H.cl (by rw [idx_hit hlt hpk h2])
    · repeat' (first | refine y1 sg ?_ | with_reducible apply OW.nil | with_reducible apply thn_n | refine CW.region ?_ | with_reducible apply CW.skip | fail)
      refine Again.mk (k + 1) rfl ⟨vsucc (by omega), trivial⟩ ⟨hlt, fun j hj => ?_, H⟩ (by omega)
      by_cases hj' : j = k
      · rw [hj', h2]
      · exact hpk j (by omega)
  · repeat' (first | refine y1 sg ?_ | with_reducible apply OW.nil | with_reducible apply thn_n | with_reducible apply CW.seq | refine CW.region ?_ | with_reducible apply CW.ret | with_reducible apply CW.exit | with_reducible apply thn_e | refine y24 ?_ | fail)
    have hkn : k = n := by simp at h; omega
    exact ret1 rfl H.cl (by rw [idx_miss (hkn ▸ hpk)])
theorem c_ContainsLot {n cap : Nat} {a : Option Addr} {el : Nat → List Value} {f : FuncId} {caps : List Value} {F : Frag} (p : Nat → Bool) (w0 : World) (hF : Mem w0 F) (hs : SlA F 4 a n cap el) (hf : Ent Tryz.prog f)
    (hp : ∀ j, j < n → ∀ w, Cl w0 w → Calls Tryz.prog f ([Value.agg (el j).toArray] ++ caps).toArray w (Ret (.bool (p j)) w)) :
    Calls Tryz.prog 176 [.slice a n cap, .func (.func f) #[] caps.toArray].toArray w0 (Ret (.bool (decide (idx p n ≥ 0))) w0) := by
  refine enter [.tmp 4] Tryz.func176 rfl Tryz.ntmps176 rfl rfl ?_
  have H := St.start w0
  repeat' (first | refine y1 sg ?_ | refine y3 ?_ | (refine' y30 ent220 ?_ ?_; rotate_left; exact c_IndexLot p _ (H.memF hF) hs hf (fun j hj w' hw' => hp j hj w' (H.cl.trans hw')); intro w hcl; replace H := H.ext hcl; clear hcl) | with_reducible apply OW.nil | with_reducible apply thn_n | with_reducible apply CW.seq | refine CW.region ?_ | with_reducible apply CW.ret | fail)
  all_goals exact ret1 rfl H.cl rfl
theorem c_ContainsAuc {n cap : Nat} {a : Option Addr} {el : Nat → List Value} {f : FuncId} {caps : List Value} {F : Frag} (p : Nat → Bool) (w0 : World) (hF : Mem w0 F) (hs : SlA F 9 a n cap el) (hf : Ent Tryz.prog f)
    (hp : ∀ j, j < n → ∀ w, Cl w0 w → Calls Tryz.prog f ([Value.agg (el j).toArray] ++ caps).toArray w (Ret (.bool (p j)) w)) :
    Calls Tryz.prog 247 [.slice a n cap, .func (.func f) #[] caps.toArray].toArray w0 (Ret (.bool (decide (idx p n ≥ 0))) w0) := by
  refine enter [.tmp 4] Tryz.func247 rfl Tryz.ntmps247 rfl rfl ?_
  have H := St.start w0
  repeat' (first | refine y1 sg ?_ | refine y3 ?_ | (refine' y30 ent284 ?_ ?_; rotate_left; exact c_IndexAuc p _ (H.memF hF) hs hf (fun j hj w' hw' => hp j hj w' (H.cl.trans hw')); intro w hcl; replace H := H.ext hcl; clear hcl) | with_reducible apply OW.nil | with_reducible apply thn_n | with_reducible apply CW.seq | refine CW.region ?_ | with_reducible apply CW.ret | fail)
  all_goals exact ret1 rfl H.cl rfl
end Go.Proofs.YtggolnppckpdlaaGreat
set_option linter.unusedSimpArgs false
set_option linter.unusedVariables false
namespace Go.Proofs.YtggolnppckpdlaaGreat
open Go Go.Sk Go.RowKit
def cmpI (x y : Int) : Int := if x < y then -1 else if x > y then 1 else 0
theorem c_isNaN (x : Int) (w : World) : Calls Tryz.prog 250 [.int .i64 x].toArray w (Ret (.bool false) w) := by
  refine enter [.tmp 2] Tryz.func250 rfl Tryz.ntmps250 rfl rfl ?_
  have H := St.start w
  repeat' (first | refine y1 sg ?_ | refine y2 sg ?_ | refine y3 ?_ | refine y4 ?_ | refine y5 sg ?_ | refine y6 sg ?_ | refine y7 sg H ?_ | refine y8 sg H ?_ | (refine y9 H ?_; intro b w H) | (refine y10 sg H ?_; intro b w H) | (refine y11 sg H ?_; intro w H) | refine y12 ?_ | refine y13 ?_ | refine y14 ?_ | refine y15 ?_ | refine y16 ?_ | (refine y17 ?_ ?_; all_goals intro h) | (refine y18 ?_ ?_; all_goals intro h) | with_reducible apply OW.app | with_reducible apply OW.app0 | with_reducible apply QW.app | with_reducible apply QW.app0 | with_reducible apply OW.nil | (with_reducible apply QW.nil; intro w hcl; replace H := H.ext hcl; clear hcl) | refine y19 ?_ | with_reducible apply thn_n | with_reducible apply CW.seq | refine CW.region ?_ | refine y20 mixed ?_ | with_reducible apply CW.block | with_reducible apply CW.ret | with_reducible apply CW.exit | with_reducible apply CW.skip | with_reducible apply thn_r | with_reducible apply thn_e | with_reducible apply blk_n | with_reducible apply blk_r | refine y24 ?_ | refine y25 ?_ | refine y21 ?_ | refine y22 ?_ | (refine y23 ?_ ?_; all_goals intro h) | fail)
  exact ret1 rfl H.cl (by simp)
theorem c_Compare (x y : Int) (w : World) : Calls Tryz.prog 215 [.int .i64 x, .int .i64 y].toArray w (Ret (.int .i64 (cmpI x y)) w) := by
  refine enter [.tmp 4] Tryz.func215 rfl Tryz.ntmps215 rfl rfl ?_
  have H := St.start w
  repeat' (first | refine y1 sg ?_ | refine y2 sg ?_ | refine y3 ?_ | refine y4 ?_ | refine y5 sg ?_ | refine y6 sg ?_ | refine y7 sg H ?_ | refine y8 sg H ?_ | (refine y9 H ?_; intro b w H) | (refine y10 sg H ?_; intro b w H) | (refine y11 sg H ?_; intro w H) | refine y12 ?_ | (refine' y30 ent250 ?_ ?_; rotate_left; exact c_isNaN _ _; intro w hcl; replace H := H.ext hcl; clear hcl) | (refine' y31 ent250 ?_ ?_; rotate_left; exact (fun _ hcl => c_isNaN _ _)) | refine y13 ?_ | refine y14 ?_ | refine y15 ?_ | refine y16 ?_ | (refine y17 ?_ ?_; all_goals intro h) | (refine y18 ?_ ?_; all_goals intro h) | with_reducible apply OW.app | with_reducible apply OW.app0 | with_reducible apply QW.app | with_reducible apply QW.app0 | with_reducible apply OW.nil | (with_reducible apply QW.nil; intro w hcl; replace H := H.ext hcl; clear hcl) | refine y19 ?_ | with_reducible apply thn_n | with_reducible apply CW.seq | refine CW.region ?_ | refine y20 mixed ?_ | with_reducible apply CW.block | with_reducible apply CW.ret | with_reducible apply CW.exit | with_reducible apply CW.skip | with_reducible apply thn_r | with_reducible apply thn_e | with_reducible apply blk_n | with_reducible apply blk_r | refine y24 ?_ | refine y25 ?_ | refine y21 ?_ | refine y22 ?_ | (refine y23 ?_ ?_; all_goals intro h) | fail)
  all_goals simp only [decide_eq_true_eq, decide_eq_false_iff_not] at *
  all_goals exact ret1 rfl H.cl (congrArg (Value.int .i64) (by unfold cmpI; split <;> (try split) <;> omega))
theorem c_isNaNI (x : Int) (w : World) : Calls Tryz.prog 249 [.int .i64 x].toArray w (Ret (.bool false) w) := by
  refine enter [.tmp 2] Tryz.func249 rfl Tryz.ntmps249 rfl rfl ?_
  have H := St.start w
  repeat' (first | refine y1 sg ?_ | refine y2 sg ?_ | refine y3 ?_ | refine y4 ?_ | refine y5 sg ?_ | refine y6 sg ?_ | refine y7 sg H ?_ | refine y8 sg H ?_ | (refine y9 H ?_; intro b w H) | (refine y10 sg H ?_; intro b w H) | (refine y11 sg H ?_; intro w H) | refine y12 ?_ | refine y13 ?_ | refine y14 ?_ | refine y15 ?_ | refine y16 ?_ | (refine y17 ?_ ?_; all_goals intro h) | (refine y18 ?_ ?_; all_goals intro h) | with_reducible apply OW.app | with_reducible apply OW.app0 | with_reducible apply QW.app | with_reducible apply QW.app0 | with_reducible apply OW.nil | (with_reducible apply QW.nil; intro w hcl; replace H := H.ext hcl; clear hcl) | refine y19 ?_ | with_reducible apply thn_n | with_reducible apply CW.seq | refine CW.region ?_ | refine y20 mixed ?_ | with_reducible apply CW.block | with_reducible apply CW.ret | with_reducible apply CW.exit | with_reducible apply CW.skip | with_reducible apply thn_r | with_reducible apply thn_e | with_reducible apply blk_n | with_reducible apply blk_r | refine y24 ?_ | refine y25 ?_ | refine y21 ?_ | refine y22 ?_ | (refine y23 ?_ ?_; all_goals intro h) | fail)
  exact ret1 rfl H.cl (by simp)
theorem c_CompareI (x y : Int) (w : World) : Calls Tryz.prog 214 [.int .i64 x, .int .i64 y].toArray w (Ret (.int .i64 (cmpI x y)) w) := by
  refine enter [.tmp 4] Tryz.func214 rfl Tryz.ntmps214 rfl rfl ?_
  have H := St.start w
  repeat' (first | refine y1 sg ?_ | refine y2 sg ?_ | refine y3 ?_ | refine y4 ?_ | refine y5 sg ?_ | refine y6 sg ?_ | refine y7 sg H ?_ | refine y8 sg H ?_ | (refine y9 H ?_; intro b w H) | (refine y10 sg H ?_; intro b w H) | (refine y11 sg H ?_; intro w H) | refine y12 ?_ | (refine' y30 ent249 ?_ ?_; rotate_left; exact c_isNaNI _ _; intro w hcl; replace H := H.ext hcl; clear hcl) | (refine' y31 ent249 ?_ ?_; rotate_left; exact (fun _ hcl => c_isNaNI _ _)) | refine y13 ?_ | refine y14 ?_ | refine y15 ?_ | refine y16 ?_ | (refine y17 ?_ ?_; all_goals intro h) | (refine y18 ?_ ?_; all_goals intro h) | with_reducible apply OW.app | with_reducible apply OW.app0 | with_reducible apply QW.app | with_reducible apply QW.app0 | with_reducible apply OW.nil | (with_reducible apply QW.nil; intro w hcl; replace H := H.ext hcl; clear hcl) | refine y19 ?_ | with_reducible apply thn_n | with_reducible apply CW.seq | refine CW.region ?_ | refine y20 mixed ?_ | with_reducible apply CW.block | with_reducible apply CW.ret | with_reducible apply CW.exit | with_reducible apply CW.skip | with_reducible apply thn_r | with_reducible apply thn_e | with_reducible apply blk_n | with_reducible apply blk_r | refine y24 ?_ | refine y25 ?_ | refine y21 ?_ | refine y22 ?_ | (refine y23 ?_ ?_; all_goals intro h) | fail)
  all_goals simp only [decide_eq_true_eq, decide_eq_false_iff_not] at *
  all_goals exact ret1 rfl H.cl (congrArg (Value.int .i64) (by unfold cmpI; split <;> (try split) <;> omega))
end Go.Proofs.YtggolnppckpdlaaGreat
