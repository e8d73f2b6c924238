/- Texts of ours, joined: the steps of the proof, or the claim's theorem. -/
import Derived.Test.YtggolnppckpdlaaGreatQ08
import Derived.Test.YtggolnppckpdlaaGreatQ14
import Derived.Test.YtggolnppckpdlaaGreatQ19
import Derived.Test.YtggolnppckpdlaaGreatQ28
set_option linter.unusedSimpArgs false
set_option linter.unusedVariables false
namespace Go.Proofs.YtggolnppckpdlaaGreat
open Go Go.Sk Go.RowKit
attribute [local irreducible] Go.Calls
theorem c_IdxS {n cap : Nat} {a : Option Addr} (nm : Nat → ByteArray) {f : FuncId} {caps : List Value} {F : Frag} (p : Nat → Bool) (w0 : World) (hF : Mem w0 F) (hs : SlA F 1 a n cap fun j => [.string (nm j)]) (hf : Ent Tryz.prog f)
    (hp : ∀ j, j < n → ∀ w, Cl w0 w → Calls Tryz.prog f ([Value.string (nm j)] ++ caps).toArray w (Ret (.bool (p j)) w)) :
    Calls Tryz.prog 293 [.slice a n cap, .func (.func f) #[] caps.toArray].toArray w0 (Ret (.int .i64 (idx p n)) w0) := by
  obtain ⟨hn, hc, b, off, cs, T, fr, hs⟩ := hs
  refine enter [.tmp 4] Tryz.func293 rfl Tryz.ntmps293 rfl rfl ?_
  have H := St.start w0
  repeat' (first | refine y1 sg ?_ | with_reducible apply OW.nil | with_reducible apply thn_n | with_reducible apply CW.seq | refine CW.region ?_ | with_reducible apply CW.block | fail)
  refine CW.loopI [(4, 5), (8, 18)] (fun k : Nat => [(8, .int .i64 (k : Int))]) (fun k w => k ≤ n ∧ (∀ j, j < k → p j = false) ∧ St w0 [] w) (fun k => n - k) 0 ⟨rfl, trivial⟩ ⟨Nat.zero_le _, fun j hj => by omega, H⟩ ?_
  clear H
  rintro k g w ⟨hk, hpk, H⟩
  repeat' (first | refine y1 sg ?_ | with_reducible apply OW.nil | with_reducible apply thn_n | with_reducible apply CW.seq | refine CW.region ?_ | fail)
  refine CW.cond rfl (fun h => ?_) (fun h => ?_)
  · have hlt : k < n := by simpa using h
    repeat' (first | refine y1 sg ?_ | refine y3 ?_ | (refine OX.val rfl rfl (Yq.ixB sg hs rfl rfl rfl rfl rfl rfl rfl (Int.toNat_natCast _) (by omega) (by omega)) ?_) | (refine y46 sg (hs) ((H.memF hF)) ?_ ?_; (omega)) | (refine OX.call rfl rfl (En.cloV hf rfl rfl rfl) (hp k hlt _ H.cl) ?_; intro w hcl; replace H := H.ext hcl; clear hcl) | with_reducible apply OW.nil | with_reducible apply thn_n | with_reducible apply CW.seq | refine CW.region ?_ | with_reducible apply CW.block | with_reducible apply CW.skip | fail)
    refine CW.cond rfl (fun h2 => ?_) (fun h2 => ?_)
    · repeat' (first | refine y1 sg ?_ | with_reducible apply OW.nil | with_reducible apply thn_n | with_reducible apply CW.seq | refine CW.region ?_ | with_reducible apply CW.ret | with_reducible apply thn_r | with_reducible apply blk_r | fail)
      exact ret1 rfl H.cl (by rw [idx_hit hlt hpk h2])
    · repeat' (first | refine y1 sg ?_ | with_reducible apply OW.nil | with_reducible apply thn_n | refine CW.region ?_ | with_reducible apply CW.skip | fail)
      refine Again.mk (k + 1) rfl ⟨vsucc (by omega), trivial⟩ ⟨hlt, fun j hj => ?_, H⟩ (by omega)
      by_cases hj' : j = k
      · rw [hj', h2]
      · exact hpk j (by omega)
  · repeat' (first | refine y1 sg ?_ | with_reducible apply OW.nil | with_reducible apply thn_n | with_reducible apply CW.seq | refine CW.region ?_ | with_reducible apply CW.ret | with_reducible apply CW.exit | with_reducible apply thn_e | refine y24 ?_ | fail)
    have hkn : k = n := by simp at h; omega
    exact ret1 rfl H.cl (by rw [idx_miss (hkn ▸ hpk)])
theorem c_ContS {n cap : Nat} {a : Option Addr} (nm : Nat → ByteArray) {f : FuncId} {caps : List Value} {F : Frag} (p : Nat → Bool) (w0 : World) (hF : Mem w0 F) (hs : SlA F 1 a n cap fun j => [.string (nm j)]) (hf : Ent Tryz.prog f)
    (hp : ∀ j, j < n → ∀ w, Cl w0 w → Calls Tryz.prog f ([Value.string (nm j)] ++ caps).toArray w (Ret (.bool (p j)) w)) :
    Calls Tryz.prog 267 [.slice a n cap, .func (.func f) #[] caps.toArray].toArray w0 (Ret (.bool (decide (idx p n ≥ 0))) w0) := by
  refine enter [.tmp 4] Tryz.func267 rfl Tryz.ntmps267 rfl rfl ?_
  have H := St.start w0
  repeat' (first | refine y1 sg ?_ | refine y3 ?_ | (refine' y30 ent293 ?_ ?_; rotate_left; exact c_IdxS nm p _ (H.memF hF) hs hf (fun j hj w' hw' => hp j hj w' (H.cl.trans hw')); intro w hcl; replace H := H.ext hcl; clear hcl) | with_reducible apply OW.nil | with_reducible apply thn_n | with_reducible apply CW.seq | refine CW.region ?_ | with_reducible apply CW.ret | fail)
  all_goals exact ret1 rfl H.cl rfl
theorem c_CloneS {n cap : Nat} {a : Option Addr} (nm : Nat → ByteArray) {F : Frag} (w0 : World) (hF : Mem w0 F) (hs : SlA F 1 a n cap fun j => [.string (nm j)]) (hn : n * 16 ≤ 140737488355328) :
    Calls Tryz.prog 272 [.slice a n cap].toArray w0 (RetF (fun M v => ∃ a' cap', v = .slice a' n cap' ∧ Own M 9 1 a' n cap' ((List.range n).flatMap fun j => [.string (nm j)])) w0) := by
  obtain ⟨hnc, hcb, b, off, cs, T, fr, hs⟩ := hs
  refine enter [.tmp 2] Tryz.func272 rfl Tryz.ntmps272 rfl rfl ?_
  have H := St.start w0
  repeat' (first | refine y1 sg ?_ | refine y3 ?_ | (refine OX.val rfl rfl (Yq.nilS sg rfl rfl rfl rfl) ?_) | with_reducible apply OW.nil | with_reducible apply thn_n | with_reducible apply CW.seq | refine CW.region ?_ | fail)
  refine CW.cond rfl (fun h => ?_) (fun h => ?_)
  · have hn0 : n = 0 := by
      rcases Nat.eq_zero_or_pos n with h0 | h0
      · exact h0
      · rw [(hs h0).1] at h; cases h
    subst hn0
    repeat' (first | refine y1 sg ?_ | with_reducible apply OW.nil | with_reducible apply thn_n | with_reducible apply CW.seq | refine CW.region ?_ | with_reducible apply CW.ret | with_reducible apply thn_r | fail)
    exact ret1F rfl H ⟨_, _, rfl, Own.nil _ _ _⟩
  · have hlen : ∀ m, ((List.range m).flatMap fun j => [Value.string (nm j)]).length = m * 1 := by
      intro m
      induction m with
      | zero => rfl
      | succ m ih => rw [List.range_succ, List.flatMap_append, List.length_append, ih, List.flatMap_singleton]; rfl
    have hsrc : ∀ w, Mem w F → Src w (.slice a n cap) n ((List.range n).flatMap fun j => [Value.string (nm j)]) := by
      intro w hM
      rcases Nat.eq_zero_or_pos n with h0 | h0
      · subst h0
        cases a with
        | none => cases h
        | some a => exact .inl ⟨a, cap, rfl, fun j u hj => by cases hj⟩
      · obtain ⟨rfl, hm, hx⟩ := hs h0
        refine .inl ⟨_, _, rfl, fun j u hj => ?_⟩
        rw [add_spot, cell_of hM hm]
        have hjn : j < n := by
          have := (List.getElem?_eq_some_iff.1 hj).1
          rw [hlen] at this; omega
        have hj2 : ((List.range n).flatMap fun j => [Value.string (nm j)]) = (List.range n).map fun j => Value.string (nm j) := by
          rw [List.flatMap_def]; induction (List.range n) with
          | nil => rfl
          | cons x t ih => simp only [List.map_cons, List.flatten_cons, ih, List.singleton_append]
        rw [hj2, List.getElem?_map, List.getElem?_range hjn] at hj
        have h3 := (hx j hjn).2
        have h4 : ((cs.drop (off + j * 1)).take 1)[0]? = some (Value.string (nm j)) := by rw [h3]; rfl
        rw [List.getElem?_take_of_lt (by omega), List.getElem?_drop] at h4
        rw [show off + j = off + j * 1 + 0 by omega, h4, ← hj]; rfl
    have hone : ∀ u ∈ ((List.range n).flatMap fun j => [Value.string (nm j)]), u.oneCell' = true := by
      intro u hu; obtain ⟨j, hj, hu⟩ := List.mem_flatMap.1 hu; rw [List.mem_singleton] at hu; subst hu; rfl
    repeat' (first | refine y1 sg ?_ | refine y3 ?_ | (refine OX.build0 sg H rfl rfl rfl rfl rfl rfl ?_; intro b w H _) | (refine OX.append sg 1 16 (M := []) (G := []) H rfl rfl rfl rfl rfl rfl rfl rfl rfl rfl rfl (Own.nil _ _ _) (hsrc _ (H.memF hF)) (hlen n) hone (by unfold maxLen; omega) (by omega) ?_; intro a' cap' M w hO H; simp only [Nat.zero_add, List.nil_append] at hO; rw [List.append_nil] at H; rw [Nat.zero_add]) | with_reducible apply OW.nil | with_reducible apply thn_n | with_reducible apply CW.seq | refine CW.region ?_ | with_reducible apply CW.ret | with_reducible apply CW.skip | fail)
    exact ret1F rfl H ⟨_, _, rfl, hO⟩
theorem c_named1 (s : ByteArray) (hsz : s.size ≤ 140737488355328) (w0 : World) : Calls Tryz.prog 268 [.string s].toArray w0 (Ret (.bool (!mayName s)) w0) := by
  refine enter [.tmp 2] Tryz.func268 rfl Tryz.ntmps268 rfl rfl ?_
  have H := St.start w0
  repeat' (first | refine y1 sg ?_ | refine y3 ?_ | (refine' y30 ent269 ?_ ?_; rotate_left; exact c_MayName s hsz _; intro w hcl; replace H := H.ext hcl; clear hcl) | with_reducible apply OW.nil | with_reducible apply thn_n | with_reducible apply CW.seq | refine CW.region ?_ | with_reducible apply CW.ret | fail)
  all_goals exact ret1 rfl H.cl rfl
end Go.Proofs.YtggolnppckpdlaaGreat
set_option linter.unusedSimpArgs false
set_option linter.unusedVariables false
namespace Go.Proofs.YtggolnppckpdlaaGreat
open Go Go.Sk Go.RowKit
attribute [local irreducible] Go.Calls
def rangeF (n lo hi : Int) : Bool := decide (lo ≤ n) && decide (n ≤ hi)
theorem rangeF_iff (n lo hi : Int) : rangeF n lo hi = true ↔ (lo ≤ n ∧ n ≤ hi) := by simp [rangeF]
theorem c_range (n lo hi : Int) (w : World) : Calls Tryz.prog 232 [.int .i64 n, .int .i64 lo, .int .i64 hi].toArray w (Ret (.bool (rangeF n lo hi)) w) := by
  refine enter [.tmp 6] Tryz.func232 rfl Tryz.ntmps232 rfl rfl ?_
  have H := St.start w
  repeat' (first | refine y1 sg ?_ | refine y5 sg ?_ | refine y13 ?_ | refine y14 ?_ | (refine y17 ?_ ?_; all_goals intro h) | with_reducible apply OW.nil | with_reducible apply thn_n | with_reducible apply CW.seq | refine CW.region ?_ | with_reducible apply CW.ret | fail)
  all_goals simp only [decide_eq_true_eq, decide_eq_false_iff_not, ge_iff_le] at *
  all_goals exact ret1 rfl H.cl (congrArg Value.bool (by unfold rangeF; simp only [*, decide_true, decide_false, Bool.true_and, Bool.and_true, Bool.false_and, Bool.and_false]))
def nameAt (l : List Ac) (s : ByteArray) (j : Nat) : Bool := (ac_ l j).name.toList == s.toList
def namedI (l : List Ac) (s : ByteArray) : Int := idx (nameAt l s) l.length
def acctOk (l : List Ac) (k : Nat) : Bool := mayName (ac_ l k).name && (namedI l (ac_ l k).name == (k : Int))
def acctsF (l : List Ac) : Bool := decide (l.length ≤ 64) && (List.range l.length).all fun k => acctOk l k
theorem acctsF_iff {l : List Ac} : acctsF l = true ↔ l.length ≤ 64 ∧ ∀ k, k < l.length → mayName (ac_ l k).name = true ∧ namedI l (ac_ l k).name = k := by
  unfold acctsF acctOk
  rw [Bool.and_eq_true, decide_eq_true_eq, List.all_eq_true]
  simp only [List.mem_range, Bool.and_eq_true, beq_iff_eq]
theorem noB {b : Bool} (h : b = true → False) : false = b := by
  cases b with
  | false => rfl
  | true => exact (h rfl).elim
end Go.Proofs.YtggolnppckpdlaaGreat
