/- Texts of ours, joined: the steps of the proof, or the claim's theorem. -/
import Derived.Test.YtggolnppckpdlaaGreatR06
import Derived.Test.YtggolnppckpdlaaGreatR19
set_option linter.unusedSimpArgs false
set_option linter.unusedVariables false
namespace Go.Proofs.YtggolnppckpdlaaGreat
open Go Go.Sk Go.RowKit
attribute [local irreducible] Go.Calls
theorem c_IdxS {n cap : Nat} {a : Option Addr} (nm : Nat → ByteArray) {f : FuncId} {caps : List Value} {F : zI} (p : Nat → Bool) (w0 : World) (hF : Mem w0 F) (hs : SlA F 1 a n cap fun j => [.string (nm j)]) (hf : Ent Tryz.prog f)
  (hp : ∀ j, j < n → ∀ w, Cl w0 w → Calls Tryz.prog f ([Value.string (nm j)] ++ caps).toArray w (Ret (.bool (p j)) w)) :
  Calls Tryz.prog 293 [.slice a n cap, .func (.func f) #[] caps.toArray].toArray w0 (Ret (.int .i64 (idx p n)) w0) := by
 obtain ⟨hn, hc, b, off, cs, T, fr, hs⟩ := hs
 refine enter [.tmp 4] Tryz.func293 rfl Tryz.ntmps293 rfl rfl ?_
 have H := zH w0
 repeat' (first | refine y1 sg ?_ | (with_reducible first | apply zB | apply zD | apply zC | apply zE) | refine zA ?_ | fail)
 refine zK [(4, 5), (8, 18)] (fun k : Nat => [(8, .int .i64 (k : Int))]) (fun k w => k ≤ n ∧ (∀ j, j < k → p j = false) ∧ St w0 [] w) (fun k => n - k) 0 ⟨rfl, trivial⟩ ⟨Nat.zero_le _, fun j hj => by omega, H⟩ ?_
 clear H
 rintro k g w ⟨hk, hpk, H⟩
 repeat' (first | refine y1 sg ?_ | (with_reducible first | apply zB | apply zD | apply zC) | refine zA ?_ | fail)
 refine zM rfl (fun h => ?_) (fun h => ?_)
 ·have hlt : k < n := by simpa using h
  repeat' (first | refine y1 sg ?_ | refine y3 ?_ | (refine zY rfl rfl (zAK sg hs rfl rfl rfl rfl rfl rfl rfl (Int.toNat_natCast _) (by omega) (by omega)) ?_) | (refine y46 sg (hs) ((H.memF hF)) ?_ ?_; (omega)) | (refine OX.call rfl rfl (zAH hf rfl rfl rfl) (hp k hlt _ H.cl) ?_; intro w hcl; replace H := H.ext hcl; clear hcl) | (with_reducible first | apply zB | apply zD | apply zC | apply zE | apply zG) | refine zA ?_ | fail)
  refine zM rfl (fun h2 => ?_) (fun h2 => ?_)
  ·repeat' (first | refine y1 sg ?_ | (with_reducible first | apply zB | apply zD | apply zC | apply zF | apply zO | apply zW) | refine zA ?_ | fail)
   exact zQ rfl H.cl (by rw [zA5 hlt hpk h2])
  ·repeat' (first | refine y1 sg ?_ | (with_reducible first | apply zB | apply zD | apply zG) | refine zA ?_ | fail)
   refine zJ (k + 1) rfl ⟨zT (by omega), trivial⟩ ⟨hlt, fun j hj => ?_, H⟩ (by omega)
   by_cases hj' : j = k
   ·rw [hj', h2]
   ·exact hpk j (by omega)
 ·repeat' (first | refine y1 sg ?_ | (with_reducible first | apply zB | apply zD | apply zC | apply zF | apply zL | apply zS) | refine zA ?_ | refine y24 ?_ | fail)
  have hkn : k = n := by simp at h; omega
  exact zQ rfl H.cl (by rw [zAm (hkn ▸ hpk)])
theorem zPs {n cap : Nat} {a : Option Addr} (nm : Nat → ByteArray) {f : FuncId} {caps : List Value} {F : zI} (p : Nat → Bool) (w0 : World) (hF : Mem w0 F) (hs : SlA F 1 a n cap fun j => [.string (nm j)]) (hf : Ent Tryz.prog f)
  (hp : ∀ j, j < n → ∀ w, Cl w0 w → Calls Tryz.prog f ([Value.string (nm j)] ++ caps).toArray w (Ret (.bool (p j)) w)) :
  Calls Tryz.prog 267 [.slice a n cap, .func (.func f) #[] caps.toArray].toArray w0 (Ret (.bool (decide (idx p n ≥ 0))) w0) := by
 refine enter [.tmp 4] Tryz.func267 rfl Tryz.ntmps267 rfl rfl ?_
 have H := zH w0
 repeat' (first | refine y1 sg ?_ | refine y3 ?_ | (refine' y30 ent293 ?_ ?_; rotate_left; exact c_IdxS nm p _ (H.memF hF) hs hf (fun j hj w' hw' => hp j hj w' (H.cl.trans hw')); intro w hcl; replace H := H.ext hcl; clear hcl) | (with_reducible first | apply zB | apply zD | apply zC | apply zF) | refine zA ?_ | fail)
 all_goals exact zQ rfl H.cl rfl
theorem zN0 {n cap : Nat} {a : Option Addr} (nm : Nat → ByteArray) {F : zI} (w0 : World) (hF : Mem w0 F) (hs : SlA F 1 a n cap fun j => [.string (nm j)]) (hn : n * 16 ≤ 140737488355328) :
  Calls Tryz.prog 272 [.slice a n cap].toArray w0 (zf (fun M v => ∃ a' cap', v = .slice a' n cap' ∧ Own M 9 1 a' n cap' ((List.range n).flatMap fun j => [.string (nm j)])) w0) := by
 obtain ⟨hnc, hcb, b, off, cs, T, fr, hs⟩ := hs
 refine enter [.tmp 2] Tryz.func272 rfl Tryz.ntmps272 rfl rfl ?_
 have H := zH w0
 repeat' (first | refine y1 sg ?_ | refine y3 ?_ | (refine zY rfl rfl (Yq.nilS sg rfl rfl rfl rfl) ?_) | (with_reducible first | apply zB | apply zD | apply zC) | refine zA ?_ | fail)
 refine zM rfl (fun h => ?_) (fun h => ?_)
 ·have hn0 : n = 0 := by
   rcases Nat.eq_zero_or_pos n with h0 | h0
   ·exact h0
   ·rw [(hs h0).1] at h; cases h
  subst hn0
  repeat' (first | refine y1 sg ?_ | (with_reducible first | apply zB | apply zD | apply zC | apply zF | apply zO) | refine zA ?_ | fail)
  exact zDs rfl H ⟨_, _, rfl, zAG _ _ _⟩
 ·have hlen : ∀ m, ((List.range m).flatMap fun j => [Value.string (nm j)]).length = m * 1 := by
   intro m
   induction m with
   | zero => rfl
   | succ m ih => rw [List.range_succ, List.flatMap_append, List.length_append, ih, List.flatMap_singleton]; rfl
  have hsrc : ∀ w, Mem w F → Src w (.slice a n cap) n ((List.range n).flatMap fun j => [Value.string (nm j)]) := by
   intro w hM
   rcases Nat.eq_zero_or_pos n with h0 | h0
   ·subst h0
    cases a with
    | none => cases h
    | some a => exact .inl ⟨a, cap, rfl, fun j u hj => by cases hj⟩
   ·obtain ⟨rfl, hm, hx⟩ := hs h0
    refine .inl ⟨_, _, rfl, fun j u hj => ?_⟩
    rw [zBl, zC3 hM hm]
    have hjn : j < n := by
     have := (List.getElem?_eq_some_iff.1 hj).1
     rw [hlen] at this; omega
    have hj2 : ((List.range n).flatMap fun j => [Value.string (nm j)]) = (List.range n).map fun j => Value.string (nm j) := by
     rw [List.flatMap_def]; induction (List.range n) with
     | nil => rfl
     | cons x t ih => simp only [List.map_cons, List.flatten_cons, ih, List.singleton_append]
    rw [hj2, List.getElem?_map, List.getElem?_range hjn] at hj
    have h3 := (hx j hjn).2
    have h4 : ((cs.drop (off + j * 1)).take 1)[0]? = some (Value.string (nm j)) := by rw [h3]; rfl
    rw [List.getElem?_take_of_lt (by omega), List.getElem?_drop] at h4
    rw [show off + j = off + j * 1 + 0 by omega, h4, ← hj]; rfl
  have hone : ∀ u ∈ ((List.range n).flatMap fun j => [Value.string (nm j)]), u.oneCell' = true := by
   intro u hu; obtain ⟨j, hj, hu⟩ := List.mem_flatMap.1 hu; rw [List.mem_singleton] at hu; subst hu; rfl
  repeat' (first | refine y1 sg ?_ | refine y3 ?_ | (refine zLe sg H rfl rfl rfl rfl rfl rfl ?_; intro b w H _) | (refine zi sg 1 16 (M := []) (G := []) H rfl rfl rfl rfl rfl rfl rfl rfl rfl rfl rfl (zAG _ _ _) (hsrc _ (H.memF hF)) (hlen n) hone (by unfold maxLen; omega) (by omega) ?_; intro a' cap' M w hO H; simp only [Nat.zero_add, List.nil_append] at hO; rw [List.append_nil] at H; rw [Nat.zero_add]) | (with_reducible first | apply zB | apply zD | apply zC | apply zF | apply zG) | refine zA ?_ | fail)
  exact zDs rfl H ⟨_, _, rfl, hO⟩
theorem zN1 (s : ByteArray) (hsz : s.size ≤ 140737488355328) (w0 : World) : Calls Tryz.prog 268 [.string s].toArray w0 (Ret (.bool (!z6 s)) w0) := by
 refine enter [.tmp 2] Tryz.func268 rfl Tryz.ntmps268 rfl rfl ?_
 have H := zH w0
 repeat' (first | refine y1 sg ?_ | refine y3 ?_ | (refine' y30 ent269 ?_ ?_; rotate_left; exact zMA s hsz _; intro w hcl; replace H := H.ext hcl; clear hcl) | (with_reducible first | apply zB | apply zD | apply zC | apply zF) | refine zA ?_ | fail)
 all_goals exact zQ rfl H.cl rfl
end Go.Proofs.YtggolnppckpdlaaGreat
