/- Texts of ours, joined: the steps of the proof, or the claim's theorem. -/
import Derived.Test.YtggolnppckpdlaaGreatR03
import Derived.Test.YtggolnppckpdlaaGreatR04
import Derived.Test.YtggolnppckpdlaaGreatR05
set_option linter.unusedSimpArgs false
set_option linter.unusedVariables false
namespace Go.Proofs.YtggolnppckpdlaaGreat
open Go Go.Sk Go.RowKit
def zDi (p : Nat → Bool) : Nat → Nat → Int
 | _, 0 => -1
 | k, n + 1 => if p k then (k : Int) else zDi p (k + 1) n
def idx (p : Nat → Bool) (n : Nat) : Int := zDi p 0 n
theorem zC9 (p : Nat → Bool) : ∀ (k s m : Nat), (∀ j, j < k → p (s + j) = false) → k ≤ m → zDi p s m = zDi p (s + k) (m - k)
 | 0, s, m, _, _ => rfl
 | k + 1, s, m, h, hm => by
   obtain ⟨m', rfl⟩ : ∃ m', m = m' + 1 := ⟨m - 1, by omega⟩
   have h0 := h 0 (by omega)
   simp only [Nat.add_zero] at h0
   rw [zDi, h0]
   simp only [Bool.false_eq_true, if_false]
   rw [zC9 p k (s + 1) m' (fun j hj => by have := h (j + 1) (by omega); rwa [show s + 1 + j = s + (j + 1) by omega]) (by omega)]
   congr 1 <;> omega
theorem zA5 {p : Nat → Bool} {n k : Nat} (hk : k < n) (h : ∀ j, j < k → p j = false) (h1 : p k = true) : idx p n = k := by
 unfold idx
 rw [zC9 p k 0 n (by simpa using h) (by omega)]
 obtain ⟨m, hm⟩ : ∃ m, n - k = m + 1 := ⟨n - k - 1, by omega⟩
 rw [hm, zDi, Nat.zero_add, h1]; rfl
theorem zAm {p : Nat → Bool} {n : Nat} (h : ∀ j, j < n → p j = false) : idx p n = -1 := by
 unfold idx
 rw [zC9 p n 0 n (by simpa using h) (Nat.le_refl _), Nat.sub_self]; rfl
theorem z7 (p : Nat → Bool) (n : Nat) : (∃ k, k < n ∧ (∀ j, j < k → p j = false) ∧ p k = true ∧ idx p n = k) ∨ ((∀ j, j < n → p j = false) ∧ idx p n = -1) := by
 by_cases h : ∃ k, k < n ∧ p k = true
 ·have : ∃ k, k < n ∧ (∀ j, j < k → p j = false) ∧ p k = true := by
   obtain ⟨k, hk⟩ := h
   induction k using Nat.strongRecOn with
   | _ k ih =>
     by_cases h2 : ∃ j, j < k ∧ p j = true
     ·obtain ⟨j, hj, hp⟩ := h2
      exact ih j hj ⟨by omega, hp⟩
     ·exact ⟨k, hk.1, fun j hj => by cases hp : p j with | false => rfl | true => exact absurd ⟨j, hj, hp⟩ h2, hk.2⟩
  obtain ⟨k, h1, h2, h3⟩ := this
  exact .inl ⟨k, h1, h2, h3, zA5 h1 h2 h3⟩
 ·have h' : ∀ j, j < n → p j = false := fun j hj => by cases hp : p j with | false => rfl | true => exact absurd ⟨j, hj, hp⟩ h
  exact .inr ⟨h', zAm h'⟩
theorem zJY {n cap : Nat} {a : Option Addr} {el : Nat → List Value} {f : FuncId} {caps : List Value} {F : zI} (p : Nat → Bool) (w0 : World) (hF : Mem w0 F) (hs : SlA F 2 a n cap el) (hf : Ent Tryz.prog f)
  (hp : ∀ j, j < n → ∀ w, Cl w0 w → Calls Tryz.prog f ([Value.agg (el j).toArray] ++ caps).toArray w (Ret (.bool (p j)) w)) :
  Calls Tryz.prog 282 [.slice a n cap, .func (.func f) #[] caps.toArray].toArray w0 (Ret (.int .i64 (idx p n)) w0) := by
 obtain ⟨hn, hc, b, off, cs, T, fr, hs⟩ := hs
 refine enter [.tmp 4] Tryz.func282 rfl Tryz.ntmps282 rfl rfl ?_
 have H := zH w0
 repeat' (first | refine y1 sg ?_ | (with_reducible first | apply zB | apply zD | apply zC | apply zE) | refine zA ?_ | fail)
 refine zK [(4, 5), (8, 18)] (fun k : Nat => [(8, .int .i64 (k : Int))]) (fun k w => k ≤ n ∧ (∀ j, j < k → p j = false) ∧ St w0 [] w) (fun k => n - k) 0 ⟨rfl, trivial⟩ ⟨Nat.zero_le _, fun j hj => by omega, H⟩ ?_
 clear H
 rintro k g w ⟨hk, hpk, H⟩
 repeat' (first | refine y1 sg ?_ | (with_reducible first | apply zB | apply zD | apply zC) | refine zA ?_ | fail)
 refine zM rfl (fun h => ?_) (fun h => ?_)
 ·have hlt : k < n := by simpa using h
  repeat' (first | refine y1 sg ?_ | refine y3 ?_ | (refine zY rfl rfl (zAK sg hs rfl rfl rfl rfl rfl rfl rfl rfl (by omega) (by omega)) ?_) | (refine zY rfl rfl (zB4 sg hs (H.memF hF) rfl rfl rfl rfl rfl hlt) ?_) | (refine OX.call rfl rfl (zAH hf rfl rfl rfl) (hp k hlt _ H.cl) ?_; intro w hcl; replace H := H.ext hcl; clear hcl) | (with_reducible first | apply zB | apply zD | apply zC | apply zE | apply zG) | refine zA ?_ | fail)
  refine zM rfl (fun h2 => ?_) (fun h2 => ?_)
  ·repeat' (first | refine y1 sg ?_ | (with_reducible first | apply zB | apply zD | apply zC | apply zF | apply zO | apply zW) | refine zA ?_ | fail)
   exact zQ rfl H.cl (by rw [zA5 hlt hpk h2])
  ·repeat' (first | refine y1 sg ?_ | (with_reducible first | apply zB | apply zD | apply zG) | refine zA ?_ | fail)
   refine zJ (k + 1) rfl ⟨zT (by omega), trivial⟩ ⟨hlt, fun j hj => ?_, H⟩ (by omega)
   by_cases hj' : j = k
   ·rw [hj', h2]
   ·exact hpk j (by omega)
 ·repeat' (first | refine y1 sg ?_ | (with_reducible first | apply zB | apply zD | apply zC | apply zF | apply zL | apply zS) | refine zA ?_ | refine y24 ?_ | fail)
  have hkn : k = n := by simp at h; omega
  exact zQ rfl H.cl (by rw [zAm (hkn ▸ hpk)])
theorem zDu {n cap : Nat} {a : Option Addr} {el : Nat → List Value} {f : FuncId} {caps : List Value} {F : zI} (p : Nat → Bool) (w0 : World) (hF : Mem w0 F) (hs : SlA F 2 a n cap el) (hf : Ent Tryz.prog f)
  (hp : ∀ j, j < n → ∀ w, Cl w0 w → Calls Tryz.prog f ([Value.agg (el j).toArray] ++ caps).toArray w (Ret (.bool (p j)) w)) :
  Calls Tryz.prog 245 [.slice a n cap, .func (.func f) #[] caps.toArray].toArray w0 (Ret (.bool (decide (idx p n ≥ 0))) w0) := by
 refine enter [.tmp 4] Tryz.func245 rfl Tryz.ntmps245 rfl rfl ?_
 have H := zH w0
 repeat' (first | refine y1 sg ?_ | refine y3 ?_ | (refine' y30 ent282 ?_ ?_; rotate_left; exact zJY p _ (H.memF hF) hs hf (fun j hj w' hw' => hp j hj w' (H.cl.trans hw')); intro w hcl; replace H := H.ext hcl; clear hcl) | (with_reducible first | apply zB | apply zD | apply zC | apply zF) | refine zA ?_ | fail)
 all_goals exact zQ rfl H.cl rfl
theorem zJZ {n cap : Nat} {a : Option Addr} {el : Nat → List Value} {f : FuncId} {caps : List Value} {F : zI} (p : Nat → Bool) (w0 : World) (hF : Mem w0 F) (hs : SlA F 9 a n cap el) (hf : Ent Tryz.prog f)
  (hp : ∀ j, j < n → ∀ w, Cl w0 w → Calls Tryz.prog f ([Value.agg (el j).toArray] ++ caps).toArray w (Ret (.bool (p j)) w)) :
  Calls Tryz.prog 284 [.slice a n cap, .func (.func f) #[] caps.toArray].toArray w0 (Ret (.int .i64 (idx p n)) w0) := by
 obtain ⟨hn, hc, b, off, cs, T, fr, hs⟩ := hs
 refine enter [.tmp 4] Tryz.func284 rfl Tryz.ntmps284 rfl rfl ?_
 have H := zH w0
 repeat' (first | refine y1 sg ?_ | (with_reducible first | apply zB | apply zD | apply zC | apply zE) | refine zA ?_ | fail)
 refine zK [(4, 5), (8, 18)] (fun k : Nat => [(8, .int .i64 (k : Int))]) (fun k w => k ≤ n ∧ (∀ j, j < k → p j = false) ∧ St w0 [] w) (fun k => n - k) 0 ⟨rfl, trivial⟩ ⟨Nat.zero_le _, fun j hj => by omega, H⟩ ?_
 clear H
 rintro k g w ⟨hk, hpk, H⟩
 repeat' (first | refine y1 sg ?_ | (with_reducible first | apply zB | apply zD | apply zC) | refine zA ?_ | fail)
 refine zM rfl (fun h => ?_) (fun h => ?_)
 ·have hlt : k < n := by simpa using h
  repeat' (first | refine y1 sg ?_ | refine y3 ?_ | (refine zY rfl rfl (zAK sg hs rfl rfl rfl rfl rfl rfl rfl rfl (by omega) (by omega)) ?_) | (refine zY rfl rfl (zB4 sg hs (H.memF hF) rfl rfl rfl rfl rfl hlt) ?_) | (refine OX.call rfl rfl (zAH hf rfl rfl rfl) (hp k hlt _ H.cl) ?_; intro w hcl; replace H := H.ext hcl; clear hcl) | (with_reducible first | apply zB | apply zD | apply zC | apply zE | apply zG) | refine zA ?_ | fail)
  refine zM rfl (fun h2 => ?_) (fun h2 => ?_)
  ·repeat' (first | refine y1 sg ?_ | (with_reducible first | apply zB | apply zD | apply zC | apply zF | apply zO | apply zW) | refine zA ?_ | fail)
   exact zQ rfl H.cl (by rw [zA5 hlt hpk h2])
  ·repeat' (first | refine y1 sg ?_ | (with_reducible first | apply zB | apply zD | apply zG) | refine zA ?_ | fail)
   refine zJ (k + 1) rfl ⟨zT (by omega), trivial⟩ ⟨hlt, fun j hj => ?_, H⟩ (by omega)
   by_cases hj' : j = k
   ·rw [hj', h2]
   ·exact hpk j (by omega)
 ·repeat' (first | refine y1 sg ?_ | (with_reducible first | apply zB | apply zD | apply zC | apply zF | apply zL | apply zS) | refine zA ?_ | refine y24 ?_ | fail)
  have hkn : k = n := by simp at h; omega
  exact zQ rfl H.cl (by rw [zAm (hkn ▸ hpk)])
end Go.Proofs.YtggolnppckpdlaaGreat
set_option linter.unusedSimpArgs false
set_option linter.unusedVariables false
namespace Go.Proofs.YtggolnppckpdlaaGreat
open Go Go.Sk Go.RowKit
theorem zJa {n cap : Nat} {a : Option Addr} {el : Nat → List Value} {f : FuncId} {caps : List Value} {F : zI} (p : Nat → Bool) (w0 : World) (hF : Mem w0 F) (hs : SlA F 6 a n cap el) (hf : Ent Tryz.prog f)
  (hp : ∀ j, j < n → ∀ w, Cl w0 w → Calls Tryz.prog f ([Value.agg (el j).toArray] ++ caps).toArray w (Ret (.bool (p j)) w)) :
  Calls Tryz.prog 281 [.slice a n cap, .func (.func f) #[] caps.toArray].toArray w0 (Ret (.int .i64 (idx p n)) w0) := by
 obtain ⟨hn, hc, b, off, cs, T, fr, hs⟩ := hs
 refine enter [.tmp 4] Tryz.func281 rfl Tryz.ntmps281 rfl rfl ?_
 have H := zH w0
 repeat' (first | refine y1 sg ?_ | (with_reducible first | apply zB | apply zD | apply zC | apply zE) | refine zA ?_ | fail)
 refine zK [(4, 5), (8, 18)] (fun k : Nat => [(8, .int .i64 (k : Int))]) (fun k w => k ≤ n ∧ (∀ j, j < k → p j = false) ∧ St w0 [] w) (fun k => n - k) 0 ⟨rfl, trivial⟩ ⟨Nat.zero_le _, fun j hj => by omega, H⟩ ?_
 clear H
 rintro k g w ⟨hk, hpk, H⟩
 repeat' (first | refine y1 sg ?_ | (with_reducible first | apply zB | apply zD | apply zC) | refine zA ?_ | fail)
 refine zM rfl (fun h => ?_) (fun h => ?_)
 ·have hlt : k < n := by simpa using h
  repeat' (first | refine y1 sg ?_ | refine y3 ?_ | (refine zY rfl rfl (zAK sg hs rfl rfl rfl rfl rfl rfl rfl rfl (by omega) (by omega)) ?_) | (refine zY rfl rfl (zB4 sg hs (H.memF hF) rfl rfl rfl rfl rfl hlt) ?_) | (refine OX.call rfl rfl (zAH hf rfl rfl rfl) (hp k hlt _ H.cl) ?_; intro w hcl; replace H := H.ext hcl; clear hcl) | (with_reducible first | apply zB | apply zD | apply zC | apply zE | apply zG) | refine zA ?_ | fail)
  refine zM rfl (fun h2 => ?_) (fun h2 => ?_)
  ·repeat' (first | refine y1 sg ?_ | (with_reducible first | apply zB | apply zD | apply zC | apply zF | apply zO | apply zW) | refine zA ?_ | fail)
   exact zQ rfl H.cl (by rw [zA5 hlt hpk h2])
  ·repeat' (first | refine y1 sg ?_ | (with_reducible first | apply zB | apply zD | apply zG) | refine zA ?_ | fail)
   refine zJ (k + 1) rfl ⟨zT (by omega), trivial⟩ ⟨hlt, fun j hj => ?_, H⟩ (by omega)
   by_cases hj' : j = k
   ·rw [hj', h2]
   ·exact hpk j (by omega)
 ·repeat' (first | refine y1 sg ?_ | (with_reducible first | apply zB | apply zD | apply zC | apply zF | apply zL | apply zS) | refine zA ?_ | refine y24 ?_ | fail)
  have hkn : k = n := by simp at h; omega
  exact zQ rfl H.cl (by rw [zAm (hkn ▸ hpk)])
theorem zDv {n cap : Nat} {a : Option Addr} {el : Nat → List Value} {f : FuncId} {caps : List Value} {F : zI} (p : Nat → Bool) (w0 : World) (hF : Mem w0 F) (hs : SlA F 6 a n cap el) (hf : Ent Tryz.prog f)
  (hp : ∀ j, j < n → ∀ w, Cl w0 w → Calls Tryz.prog f ([Value.agg (el j).toArray] ++ caps).toArray w (Ret (.bool (p j)) w)) :
  Calls Tryz.prog 241 [.slice a n cap, .func (.func f) #[] caps.toArray].toArray w0 (Ret (.bool (decide (idx p n ≥ 0))) w0) := by
 refine enter [.tmp 4] Tryz.func241 rfl Tryz.ntmps241 rfl rfl ?_
 have H := zH w0
 repeat' (first | refine y1 sg ?_ | refine y3 ?_ | (refine' y30 ent281 ?_ ?_; rotate_left; exact zJa p _ (H.memF hF) hs hf (fun j hj w' hw' => hp j hj w' (H.cl.trans hw')); intro w hcl; replace H := H.ext hcl; clear hcl) | (with_reducible first | apply zB | apply zD | apply zC | apply zF) | refine zA ?_ | fail)
 all_goals exact zQ rfl H.cl rfl
theorem zJb {n cap : Nat} {a : Option Addr} {el : Nat → List Value} {f : FuncId} {caps : List Value} {F : zI} (p : Nat → Bool) (w0 : World) (hF : Mem w0 F) (hs : SlA F 4 a n cap el) (hf : Ent Tryz.prog f)
  (hp : ∀ j, j < n → ∀ w, Cl w0 w → Calls Tryz.prog f ([Value.agg (el j).toArray] ++ caps).toArray w (Ret (.bool (p j)) w)) :
  Calls Tryz.prog 277 [.slice a n cap, .func (.func f) #[] caps.toArray].toArray w0 (Ret (.int .i64 (idx p n)) w0) := by
 obtain ⟨hn, hc, b, off, cs, T, fr, hs⟩ := hs
 refine enter [.tmp 4] Tryz.func277 rfl Tryz.ntmps277 rfl rfl ?_
 have H := zH w0
 repeat' (first | refine y1 sg ?_ | (with_reducible first | apply zB | apply zD | apply zC | apply zE) | refine zA ?_ | fail)
 refine zK [(4, 5), (8, 18)] (fun k : Nat => [(8, .int .i64 (k : Int))]) (fun k w => k ≤ n ∧ (∀ j, j < k → p j = false) ∧ St w0 [] w) (fun k => n - k) 0 ⟨rfl, trivial⟩ ⟨Nat.zero_le _, fun j hj => by omega, H⟩ ?_
 clear H
 rintro k g w ⟨hk, hpk, H⟩
 repeat' (first | refine y1 sg ?_ | (with_reducible first | apply zB | apply zD | apply zC) | refine zA ?_ | fail)
 refine zM rfl (fun h => ?_) (fun h => ?_)
 ·have hlt : k < n := by simpa using h
  repeat' (first | refine y1 sg ?_ | refine y3 ?_ | (refine zY rfl rfl (zAK sg hs rfl rfl rfl rfl rfl rfl rfl rfl (by omega) (by omega)) ?_) | (refine zY rfl rfl (zB4 sg hs (H.memF hF) rfl rfl rfl rfl rfl hlt) ?_) | (refine OX.call rfl rfl (zAH hf rfl rfl rfl) (hp k hlt _ H.cl) ?_; intro w hcl; replace H := H.ext hcl; clear hcl) | (with_reducible first | apply zB | apply zD | apply zC | apply zE | apply zG) | refine zA ?_ | fail)
  refine zM rfl (fun h2 => ?_) (fun h2 => ?_)
  ·repeat' (first | refine y1 sg ?_ | (with_reducible first | apply zB | apply zD | apply zC | apply zF | apply zO | apply zW) | refine zA ?_ | fail)
   exact zQ rfl H.cl (by rw [zA5 hlt hpk h2])
  ·repeat' (first | refine y1 sg ?_ | (with_reducible first | apply zB | apply zD | apply zG) | refine zA ?_ | fail)
   refine zJ (k + 1) rfl ⟨zT (by omega), trivial⟩ ⟨hlt, fun j hj => ?_, H⟩ (by omega)
   by_cases hj' : j = k
   ·rw [hj', h2]
   ·exact hpk j (by omega)
 ·repeat' (first | refine y1 sg ?_ | (with_reducible first | apply zB | apply zD | apply zC | apply zF | apply zL | apply zS) | refine zA ?_ | refine y24 ?_ | fail)
  have hkn : k = n := by simp at h; omega
  exact zQ rfl H.cl (by rw [zAm (hkn ▸ hpk)])
theorem zGb {n cap : Nat} {a : Option Addr} {el : Nat → List Value} {f : FuncId} {caps : List Value} {F : zI} (p : Nat → Bool) (w0 : World) (hF : Mem w0 F) (hs : SlA F 4 a n cap el) (hf : Ent Tryz.prog f)
  (hp : ∀ j, j < n → ∀ w, Cl w0 w → Calls Tryz.prog f ([Value.agg (el j).toArray] ++ caps).toArray w (Ret (.bool (p j)) w)) :
  Calls Tryz.prog 237 [.slice a n cap, .func (.func f) #[] caps.toArray].toArray w0 (Ret (.bool (decide (idx p n ≥ 0))) w0) := by
 refine enter [.tmp 4] Tryz.func237 rfl Tryz.ntmps237 rfl rfl ?_
 have H := zH w0
 repeat' (first | refine y1 sg ?_ | refine y3 ?_ | (refine' y30 ent277 ?_ ?_; rotate_left; exact zJb p _ (H.memF hF) hs hf (fun j hj w' hw' => hp j hj w' (H.cl.trans hw')); intro w hcl; replace H := H.ext hcl; clear hcl) | (with_reducible first | apply zB | apply zD | apply zC | apply zF) | refine zA ?_ | fail)
 all_goals exact zQ rfl H.cl rfl
theorem zJc {n cap : Nat} {a : Option Addr} {el : Nat → List Value} {f : FuncId} {caps : List Value} {F : zI} (p : Nat → Bool) (w0 : World) (hF : Mem w0 F) (hs : SlA F 4 a n cap el) (hf : Ent Tryz.prog f)
  (hp : ∀ j, j < n → ∀ w, Cl w0 w → Calls Tryz.prog f ([Value.agg (el j).toArray] ++ caps).toArray w (Ret (.bool (p j)) w)) :
  Calls Tryz.prog 220 [.slice a n cap, .func (.func f) #[] caps.toArray].toArray w0 (Ret (.int .i64 (idx p n)) w0) := by
 obtain ⟨hn, hc, b, off, cs, T, fr, hs⟩ := hs
 refine enter [.tmp 4] Tryz.func220 rfl Tryz.ntmps220 rfl rfl ?_
 have H := zH w0
 repeat' (first | refine y1 sg ?_ | (with_reducible first | apply zB | apply zD | apply zC | apply zE) | refine zA ?_ | fail)
 refine zK [(4, 5), (8, 18)] (fun k : Nat => [(8, .int .i64 (k : Int))]) (fun k w => k ≤ n ∧ (∀ j, j < k → p j = false) ∧ St w0 [] w) (fun k => n - k) 0 ⟨rfl, trivial⟩ ⟨Nat.zero_le _, fun j hj => by omega, H⟩ ?_
 clear H
 rintro k g w ⟨hk, hpk, H⟩
 repeat' (first | refine y1 sg ?_ | (with_reducible first | apply zB | apply zD | apply zC) | refine zA ?_ | fail)
 refine zM rfl (fun h => ?_) (fun h => ?_)
 ·have hlt : k < n := by simpa using h
  repeat' (first | refine y1 sg ?_ | refine y3 ?_ | (refine zY rfl rfl (zAK sg hs rfl rfl rfl rfl rfl rfl rfl rfl (by omega) (by omega)) ?_) | (refine zY rfl rfl (zB4 sg hs (H.memF hF) rfl rfl rfl rfl rfl hlt) ?_) | (refine OX.call rfl rfl (zAH hf rfl rfl rfl) (hp k hlt _ H.cl) ?_; intro w hcl; replace H := H.ext hcl; clear hcl) | (with_reducible first | apply zB | apply zD | apply zC | apply zE | apply zG) | refine zA ?_ | fail)
  refine zM rfl (fun h2 => ?_) (fun h2 => ?_)
  ·repeat' (first | refine y1 sg ?_ | (with_reducible first | apply zB | apply zD | apply zC | apply zF | apply zO | apply zW) | refine zA ?_ | fail)
   exact zQ rfl H.cl (by rw [zA5 hlt hpk h2])
  ·repeat' (first | refine y1 sg ?_ | (with_reducible first | apply zB | apply zD | apply zG) | refine zA ?_ | fail)
   refine zJ (k + 1) rfl ⟨zT (by omega), trivial⟩ ⟨hlt, fun j hj => ?_, H⟩ (by omega)
   by_cases hj' : j = k
   ·rw [hj', h2]
   ·exact hpk j (by omega)
 ·repeat' (first | refine y1 sg ?_ | (with_reducible first | apply zB | apply zD | apply zC | apply zF | apply zL | apply zS) | refine zA ?_ | refine y24 ?_ | fail)
  have hkn : k = n := by simp at h; omega
  exact zQ rfl H.cl (by rw [zAm (hkn ▸ hpk)])
theorem zGc {n cap : Nat} {a : Option Addr} {el : Nat → List Value} {f : FuncId} {caps : List Value} {F : zI} (p : Nat → Bool) (w0 : World) (hF : Mem w0 F) (hs : SlA F 4 a n cap el) (hf : Ent Tryz.prog f)
  (hp : ∀ j, j < n → ∀ w, Cl w0 w → Calls Tryz.prog f ([Value.agg (el j).toArray] ++ caps).toArray w (Ret (.bool (p j)) w)) :
  Calls Tryz.prog 176 [.slice a n cap, .func (.func f) #[] caps.toArray].toArray w0 (Ret (.bool (decide (idx p n ≥ 0))) w0) := by
 refine enter [.tmp 4] Tryz.func176 rfl Tryz.ntmps176 rfl rfl ?_
 have H := zH w0
 repeat' (first | refine y1 sg ?_ | refine y3 ?_ | (refine' y30 ent220 ?_ ?_; rotate_left; exact zJc p _ (H.memF hF) hs hf (fun j hj w' hw' => hp j hj w' (H.cl.trans hw')); intro w hcl; replace H := H.ext hcl; clear hcl) | (with_reducible first | apply zB | apply zD | apply zC | apply zF) | refine zA ?_ | fail)
 all_goals exact zQ rfl H.cl rfl
theorem zGd {n cap : Nat} {a : Option Addr} {el : Nat → List Value} {f : FuncId} {caps : List Value} {F : zI} (p : Nat → Bool) (w0 : World) (hF : Mem w0 F) (hs : SlA F 9 a n cap el) (hf : Ent Tryz.prog f)
  (hp : ∀ j, j < n → ∀ w, Cl w0 w → Calls Tryz.prog f ([Value.agg (el j).toArray] ++ caps).toArray w (Ret (.bool (p j)) w)) :
  Calls Tryz.prog 247 [.slice a n cap, .func (.func f) #[] caps.toArray].toArray w0 (Ret (.bool (decide (idx p n ≥ 0))) w0) := by
 refine enter [.tmp 4] Tryz.func247 rfl Tryz.ntmps247 rfl rfl ?_
 have H := zH w0
 repeat' (first | refine y1 sg ?_ | refine y3 ?_ | (refine' y30 ent284 ?_ ?_; rotate_left; exact zJZ p _ (H.memF hF) hs hf (fun j hj w' hw' => hp j hj w' (H.cl.trans hw')); intro w hcl; replace H := H.ext hcl; clear hcl) | (with_reducible first | apply zB | apply zD | apply zC | apply zF) | refine zA ?_ | fail)
 all_goals exact zQ rfl H.cl rfl
end Go.Proofs.YtggolnppckpdlaaGreat
set_option linter.unusedSimpArgs false
set_option linter.unusedVariables false
namespace Go.Proofs.YtggolnppckpdlaaGreat
open Go Go.Sk Go.RowKit
def zEv (x y : Int) : Int := if x < y then -1 else if x > y then 1 else 0
theorem zKx (x : Int) (w : World) : Calls Tryz.prog 250 [.int .i64 x].toArray w (Ret (.bool false) w) := by
 refine enter [.tmp 2] Tryz.func250 rfl Tryz.ntmps250 rfl rfl ?_
 have H := zH w
 repeat' (first | refine y1 sg ?_ | refine y2 sg ?_ | refine y3 ?_ | refine y4 ?_ | refine y5 sg ?_ | refine y6 sg ?_ | refine y7 sg H ?_ | refine y8 sg H ?_ | (refine y9 H ?_; intro b w H) | (refine y10 sg H ?_; intro b w H) | (refine y11 sg H ?_; intro w H) | refine y12 ?_ | refine y13 ?_ | refine y14 ?_ | refine y15 ?_ | refine y16 ?_ | (refine y17 ?_ ?_; all_goals intro h) | (refine y18 ?_ ?_; all_goals intro h) | (with_reducible first | apply OW.app | apply OW.app0 | apply QW.app | apply QW.app0 | apply zB | apply zD | apply zC | apply zE | apply zF | apply zL | apply zG | apply zO | apply zS | apply zDL | apply zW) | (with_reducible apply zV; intro w hcl; replace H := H.ext hcl; clear hcl) | refine y19 ?_ | refine zA ?_ | refine y20 mixed ?_ | refine y24 ?_ | refine y25 ?_ | refine y21 ?_ | refine y22 ?_ | (refine y23 ?_ ?_; all_goals intro h) | fail)
 exact zQ rfl H.cl (by simp)
theorem zEw (x y : Int) (w : World) : Calls Tryz.prog 215 [.int .i64 x, .int .i64 y].toArray w (Ret (.int .i64 (zEv x y)) w) := by
 refine enter [.tmp 4] Tryz.func215 rfl Tryz.ntmps215 rfl rfl ?_
 have H := zH w
 repeat' (first | refine y1 sg ?_ | refine y2 sg ?_ | refine y3 ?_ | refine y4 ?_ | refine y5 sg ?_ | refine y6 sg ?_ | refine y7 sg H ?_ | refine y8 sg H ?_ | (refine y9 H ?_; intro b w H) | (refine y10 sg H ?_; intro b w H) | (refine y11 sg H ?_; intro w H) | refine y12 ?_ | (refine' y30 zM7 ?_ ?_; rotate_left; exact zKx _ _; intro w hcl; replace H := H.ext hcl; clear hcl) | (refine' y31 zM7 ?_ ?_; rotate_left; exact (fun _ hcl => zKx _ _)) | refine y13 ?_ | refine y14 ?_ | refine y15 ?_ | refine y16 ?_ | (refine y17 ?_ ?_; all_goals intro h) | (refine y18 ?_ ?_; all_goals intro h) | (with_reducible first | apply OW.app | apply OW.app0 | apply QW.app | apply QW.app0 | apply zB | apply zD | apply zC | apply zE | apply zF | apply zL | apply zG | apply zO | apply zS | apply zDL | apply zW) | (with_reducible apply zV; intro w hcl; replace H := H.ext hcl; clear hcl) | refine y19 ?_ | refine zA ?_ | refine y20 mixed ?_ | refine y24 ?_ | refine y25 ?_ | refine y21 ?_ | refine y22 ?_ | (refine y23 ?_ ?_; all_goals intro h) | fail)
 all_goals simp only [decide_eq_true_eq, decide_eq_false_iff_not] at *
 all_goals exact zQ rfl H.cl (congrArg (Value.int .i64) (by unfold zEv; split <;> (try split) <;> omega))
theorem zIM (x : Int) (w : World) : Calls Tryz.prog 249 [.int .i64 x].toArray w (Ret (.bool false) w) := by
 refine enter [.tmp 2] Tryz.func249 rfl Tryz.ntmps249 rfl rfl ?_
 have H := zH w
 repeat' (first | refine y1 sg ?_ | refine y2 sg ?_ | refine y3 ?_ | refine y4 ?_ | refine y5 sg ?_ | refine y6 sg ?_ | refine y7 sg H ?_ | refine y8 sg H ?_ | (refine y9 H ?_; intro b w H) | (refine y10 sg H ?_; intro b w H) | (refine y11 sg H ?_; intro w H) | refine y12 ?_ | refine y13 ?_ | refine y14 ?_ | refine y15 ?_ | refine y16 ?_ | (refine y17 ?_ ?_; all_goals intro h) | (refine y18 ?_ ?_; all_goals intro h) | (with_reducible first | apply OW.app | apply OW.app0 | apply QW.app | apply QW.app0 | apply zB | apply zD | apply zC | apply zE | apply zF | apply zL | apply zG | apply zO | apply zS | apply zDL | apply zW) | (with_reducible apply zV; intro w hcl; replace H := H.ext hcl; clear hcl) | refine y19 ?_ | refine zA ?_ | refine y20 mixed ?_ | refine y24 ?_ | refine y25 ?_ | refine y21 ?_ | refine y22 ?_ | (refine y23 ?_ ?_; all_goals intro h) | fail)
 exact zQ rfl H.cl (by simp)
theorem zEA (x y : Int) (w : World) : Calls Tryz.prog 214 [.int .i64 x, .int .i64 y].toArray w (Ret (.int .i64 (zEv x y)) w) := by
 refine enter [.tmp 4] Tryz.func214 rfl Tryz.ntmps214 rfl rfl ?_
 have H := zH w
 repeat' (first | refine y1 sg ?_ | refine y2 sg ?_ | refine y3 ?_ | refine y4 ?_ | refine y5 sg ?_ | refine y6 sg ?_ | refine y7 sg H ?_ | refine y8 sg H ?_ | (refine y9 H ?_; intro b w H) | (refine y10 sg H ?_; intro b w H) | (refine y11 sg H ?_; intro w H) | refine y12 ?_ | (refine' y30 zM6 ?_ ?_; rotate_left; exact zIM _ _; intro w hcl; replace H := H.ext hcl; clear hcl) | (refine' y31 zM6 ?_ ?_; rotate_left; exact (fun _ hcl => zIM _ _)) | refine y13 ?_ | refine y14 ?_ | refine y15 ?_ | refine y16 ?_ | (refine y17 ?_ ?_; all_goals intro h) | (refine y18 ?_ ?_; all_goals intro h) | (with_reducible first | apply OW.app | apply OW.app0 | apply QW.app | apply QW.app0 | apply zB | apply zD | apply zC | apply zE | apply zF | apply zL | apply zG | apply zO | apply zS | apply zDL | apply zW) | (with_reducible apply zV; intro w hcl; replace H := H.ext hcl; clear hcl) | refine y19 ?_ | refine zA ?_ | refine y20 mixed ?_ | refine y24 ?_ | refine y25 ?_ | refine y21 ?_ | refine y22 ?_ | (refine y23 ?_ ?_; all_goals intro h) | fail)
 all_goals simp only [decide_eq_true_eq, decide_eq_false_iff_not] at *
 all_goals exact zQ rfl H.cl (congrArg (Value.int .i64) (by unfold zEv; split <;> (try split) <;> omega))
end Go.Proofs.YtggolnppckpdlaaGreat
set_option linter.unusedSimpArgs false
set_option linter.unusedVariables false
namespace Go.Proofs.YtggolnppckpdlaaGreat
open Go Go.Sk Go.RowKit
structure Ac where
 name : ByteArray
 opn : Bool
 deriving Inhabited
def Ac.cells (x : Ac) : List Value := [.string x.name, .bool x.opn]
structure Ins where
 name : ByteArray
 tick : Int
 halted : Bool
 deriving Inhabited
def Ins.cells (x : Ins) : List Value := [.string x.name, .int .i64 x.tick, .bool x.halted]
structure Row4 where
 acct : Int
 asset : Int
 free : Int
 held : Int
 deriving DecidableEq, Inhabited
def Row4.cells (x : Row4) : List Value := [.int .i64 x.acct, .int .i64 x.asset, .int .i64 x.free, .int .i64 x.held]
structure Odr where
 id : Int
 acct : Int
 inst : Int
 side : Int
 price : Int
 left : Int
 deriving DecidableEq, Inhabited
def Odr.cells (x : Odr) : List Value := [.int .i64 x.id, .int .i64 x.acct, .int .i64 x.inst, .int .u8 x.side, .int .i64 x.price, .int .i64 x.left]
def ac_ (l : List Ac) (j : Nat) : Ac := l.getD j default
def in_ (l : List Ins) (j : Nat) : Ins := l.getD j default
def rw_ (l : List Row4) (j : Nat) : Row4 := l.getD j default
def od_ (l : List Odr) (j : Nat) : Odr := l.getD j default
def acl (l : List Ac) (j : Nat) : List Value := (ac_ l j).cells
def ing (l : List Ins) (j : Nat) : List Value := (in_ l j).cells
def rwl (l : List Row4) (j : Nat) : List Value := (rw_ l j).cells
def odl (l : List Odr) (j : Nat) : List Value := (od_ l j).cells
def okB (n : Nat) : Bool := (decide (97 ≤ n) && decide (n ≤ 122)) || (decide (48 ≤ n) && decide (n ≤ 57)) || n == 45 || n == 95
def zGe (s : ByteArray) (k : Nat) : Bool := (List.range k).all fun j => okB (zAI s j)
def z6 (s : ByteArray) : Bool := decide (1 ≤ s.size) && decide (s.size ≤ 24) && zGe s s.size
theorem zGt (s : ByteArray) (k : Nat) : zGe s (k + 1) = (zGe s k && okB (zAI s k)) := by
 unfold zGe
 rw [List.range_succ, List.all_append]
 simp
theorem zIN {s : ByteArray} {k n : Nat} (h : okB (zAI s k) = false) (hk : k < n) : zGe s n = false := by
 unfold zGe
 rw [List.all_eq_false]
 exact ⟨k, List.mem_range.2 hk, by simp [h]⟩
theorem zKy (n : Nat) : okB n = true ↔ ((97 ≤ n ∧ n ≤ 122) ∨ (48 ≤ n ∧ n ≤ 57) ∨ n = 45 ∨ n = 95) := by
 simp only [okB, Bool.or_eq_true, Bool.and_eq_true, decide_eq_true_eq, beq_iff_eq]
 omega
set_option maxHeartbeats 2000000 in
theorem zFy (s : ByteArray) (w0 : World) : Calls Tryz.prog 192 [.string s].toArray w0 (Ret (.bool (z6 s)) w0) := by
 refine enter [.tmp 2] Tryz.func192 rfl Tryz.ntmps192 rfl rfl ?_
 have H := zH w0
 repeat' (first | refine y1 sg ?_ | refine y5 sg ?_ | refine y13 ?_ | refine y14 ?_ | (refine y17 ?_ ?_; all_goals intro h) | (with_reducible first | apply zB | apply zD | apply zC | apply zE | apply zF | apply zG | apply zO) | refine zA ?_ | refine y21 ?_ | (refine y23 ?_ ?_; all_goals intro h) | fail)
 ·exact zQ rfl H.cl (by have : ¬ 1 ≤ s.size := by have := of_decide_eq_true h; omega
                        simp [z6, this])
 ·exact zQ rfl H.cl (by have : ¬ s.size ≤ 24 := by have := of_decide_eq_true h; omega
                        simp [z6, this])
 have hs1 : 1 ≤ s.size := by have := of_decide_eq_false ‹decide ((s.size : Int) < 1) = false›; omega
 have hs2 : s.size ≤ 24 := by have := of_decide_eq_false ‹decide ((s.size : Int) > 24) = false›; omega
 refine zK [(2, 4), (13, 44)] (fun k : Nat => [(3, .int .i64 (k : Int))]) (fun k w => k ≤ s.size ∧ zGe s k = true ∧ St w0 [] w) (fun k => s.size - k) 0 ⟨rfl, trivial⟩ ⟨Nat.zero_le _, rfl, H⟩ ?_
 clear H
 rintro k gh w ⟨hk, ho, H⟩
 repeat' (first | refine y1 sg ?_ | (with_reducible first | apply zB | apply zD | apply zC) | refine zA ?_ | fail)
 refine zM rfl (fun h => ?_) (fun h => ?_)
 ·have hlt : k < s.size := by have := of_decide_eq_true h; omega
  clear h
  have hb := zKy (zAI s k)
  generalize hc : zAI s k = c at hb
  have good : okB c = true → zGe s (k + 1) = true := fun h => by rw [zGt, ho, hc, h]; rfl
  have bad : okB c = false → z6 s = false := fun h => by rw [z6, zIN (hc ▸ h) hlt, Bool.and_false]
  have nok : ∀ {p : Prop}, ¬ ((97 ≤ c ∧ c ≤ 122) ∨ (48 ≤ c ∧ c ≤ 57) ∨ c = 45 ∨ c = 95) → okB c = false := fun h => by
   cases hq : okB c with
   | false => rfl
   | true => exact absurd (hb.1 hq) h
  repeat' (first | refine y1 sg ?_ | refine y3 ?_ | refine y5 sg ?_ | (refine zY rfl rfl (hc ▸ Yq.strIx sg rfl rfl rfl rfl rfl (Int.toNat_natCast _) (by omega) (by omega)) ?_) | refine y13 ?_ | refine y14 ?_ | (refine y17 ?_ ?_; all_goals intro h) | (with_reducible first | apply zB | apply zD | apply zC | apply zE | apply zF | apply zG | apply zO | apply zW) | refine zA ?_ | refine y22 ?_ | (refine y23 ?_ ?_; all_goals intro h) | fail)
  all_goals simp only [decide_eq_true_eq, decide_eq_false_iff_not, ge_iff_le, Bool.not_eq_true', Bool.not_eq_false', beq_iff_eq, beq_eq_false_iff_ne, ne_eq, Bool.not_eq_true, Bool.not_eq_false] at *
  all_goals first
   | exact zJ (k + 1) rfl ⟨zT (by omega), trivial⟩ ⟨hlt, good (hb.2 (by omega)), H⟩ (by omega)
   | exact zQ rfl H.cl (congrArg Value.bool (bad (nok (p := True) (by omega))).symm)
 ·obtain rfl : k = s.size := by have := of_decide_eq_false h; omega
  repeat' (first | refine y1 sg ?_ | (with_reducible first | apply zB | apply zD | apply zC | apply zF | apply zL | apply zS) | refine zA ?_ | refine y24 ?_ | fail)
  exact zQ rfl H.cl (by simp [z6, hs1, hs2, ho])
end Go.Proofs.YtggolnppckpdlaaGreat
