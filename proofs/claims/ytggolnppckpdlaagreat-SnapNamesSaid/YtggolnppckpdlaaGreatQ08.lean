/- Texts of ours, joined: the steps of the proof, or the claim's theorem. -/
import Derived.Test.YtggolnppckpdlaaGreatQ03
import Derived.Test.YtggolnppckpdlaaGreatQ07
set_option linter.unusedSimpArgs false
set_option linter.unusedVariables false
namespace Go.Proofs.YtggolnppckpdlaaGreat
open Go Go.Sk Go.RowKit
attribute [local irreducible] Go.Calls
theorem c_rU8 {w0 w : World} {G : Frag} {pr : Nat} {s : ByteArray} {p : Rs} (hp : p.pos ≤ s.size) (hs : s.size ≤ 1073741824) (H : St w0 (rd pr s p :: G) w) :
    Calls Tryz.prog 132 [ptr pr].toArray w (RetF (FixR pr s G p 1 .u8) w0) := by
  refine enter [.tmp 2] Tryz.func132 rfl Tryz.ntmps132 rfl rfl ?_
  repeat' (first | refine y1 sg ?_ | refine y3 ?_ | (refine' y33 ent191 ?_ ?_; rotate_left 2; exact c_rfix1 hp hs H; rintro v N w ⟨x, p', rfl, rfl, hx, hb, hS⟩ H) | with_reducible apply OW.nil | with_reducible apply thn_n | with_reducible apply CW.seq | refine CW.region ?_ | with_reducible apply CW.ret | fail)
  exact retVF (vs := [_]) ⟨rdvT rfl, trivial⟩ H ⟨x, p', rfl, rfl, hx, hb, hS⟩
theorem c_rU32 {w0 w : World} {G : Frag} {pr : Nat} {s : ByteArray} {p : Rs} (hp : p.pos ≤ s.size) (hs : s.size ≤ 1073741824) (H : St w0 (rd pr s p :: G) w) :
    Calls Tryz.prog 48 [ptr pr].toArray w (RetF (FixR pr s G p 4 .u32) w0) := by
  refine enter [.tmp 2] Tryz.func48 rfl Tryz.ntmps48 rfl rfl ?_
  repeat' (first | refine y1 sg ?_ | refine y3 ?_ | (refine' y33 ent118 ?_ ?_; rotate_left 2; exact c_rfix4 hp hs H; rintro v N w ⟨x, p', rfl, rfl, hx, hb, hS⟩ H) | with_reducible apply OW.nil | with_reducible apply thn_n | with_reducible apply CW.seq | refine CW.region ?_ | with_reducible apply CW.ret | fail)
  exact retVF (vs := [_]) ⟨rdvT rfl, trivial⟩ H ⟨x, p', rfl, rfl, hx, hb, hS⟩
theorem c_rU64 {w0 w : World} {G : Frag} {pr : Nat} {s : ByteArray} {p : Rs} (hp : p.pos ≤ s.size) (hs : s.size ≤ 1073741824) (H : St w0 (rd pr s p :: G) w) :
    Calls Tryz.prog 47 [ptr pr].toArray w (RetF (FixR pr s G p 8 .u64) w0) := by
  refine enter [.tmp 2] Tryz.func47 rfl Tryz.ntmps47 rfl rfl ?_
  repeat' (first | refine y1 sg ?_ | refine y3 ?_ | (refine' y33 ent117 ?_ ?_; rotate_left 2; exact c_rfix8 hp hs H; rintro v N w ⟨x, p', rfl, rfl, hx, hb, hS⟩ H) | with_reducible apply OW.nil | with_reducible apply thn_n | with_reducible apply CW.seq | refine CW.region ?_ | with_reducible apply CW.ret | fail)
  exact retVF (vs := [_]) ⟨rdvT rfl, trivial⟩ H ⟨x, p', rfl, rfl, hx, hb, hS⟩
theorem c_Rerr {w0 : World} {F : Frag} {pr : Nat} {s : ByteArray} {p : Rs} (hF : Mem w0 F) (hm : rd pr s p ∈ F) : Calls Tryz.prog 49 [ptr pr].toArray w0 (Ret (.tuple #[.int .i64 p.e, .int .i64 p.to]) w0) := by
  refine enter [.tmp 2, .tmp 3] Tryz.func49 rfl Tryz.ntmps49 rfl rfl ?_
  have H := St.start w0
  repeat' (first | refine y1 sg ?_ | refine y2 sg ?_ | refine y4 ?_ | ((with_reducible apply QX.val); exact rfl; exact rfl; exact Yq.loadS sg rfl rfl (H.memF hF) hm rfl rfl) | with_reducible apply OW.nil | (with_reducible apply QW.nil; intro w hcl; replace H := H.ext hcl; clear hcl) | with_reducible apply thn_n | with_reducible apply CW.seq | refine CW.region ?_ | refine y20 mixed ?_ | with_reducible apply CW.ret | with_reducible apply CW.skip | refine y22 ?_ | fail)
  exact ret2 rfl rfl H.cl rfl
theorem c_Rleft {w0 : World} {F : Frag} {pr : Nat} {s : ByteArray} {p : Rs} (hp : p.pos ≤ s.size) (hs : s.size ≤ 1073741824) (hF : Mem w0 F) (hm : rd pr s p ∈ F) : Calls Tryz.prog 50 [ptr pr].toArray w0 (Ret (.int .i64 ((s.size - p.pos : Nat) : Int)) w0) := by
  refine enter [.tmp 2] Tryz.func50 rfl Tryz.ntmps50 rfl rfl ?_
  have H := St.start w0
  repeat' (first | refine y1 sg ?_ | refine y2 sg ?_ | refine y4 ?_ | ((with_reducible apply QX.val); exact rfl; exact rfl; exact Yq.loadS sg rfl rfl (H.memF hF) hm rfl rfl) | with_reducible apply OW.nil | (with_reducible apply QW.nil; intro w hcl; replace H := H.ext hcl; clear hcl) | with_reducible apply thn_n | with_reducible apply CW.seq | refine CW.region ?_ | refine y20 mixed ?_ | with_reducible apply CW.ret | with_reducible apply CW.skip | refine y22 ?_ | fail)
  exact ret1 rfl H.cl (congrArg (Value.int .i64) (by rw [w64 (by omega) (by omega)]; omega))
def endE (p : Rs) (n : Nat) : Int := if p.e = 0 ∧ p.pos < n then 4 else p.e
theorem c_Rend {w0 : World} {F : Frag} {pr : Nat} {s : ByteArray} {p : Rs} (hp : p.pos ≤ s.size) (hs : s.size ≤ 1073741824) (hF : Mem w0 F) (hm : rd pr s p ∈ F) : Calls Tryz.prog 63 [ptr pr].toArray w0 (Ret (.int .i64 (endE p s.size)) w0) := by
  refine enter [.tmp 2] Tryz.func63 rfl Tryz.ntmps63 rfl rfl ?_
  have H := St.start w0
  repeat' (first | refine y1 sg ?_ | refine y3 ?_ | refine y5 sg ?_ | (refine' y30 ent49 ?_ ?_; rotate_left; exact c_Rerr (H.memF hF) hm; intro w hcl; replace H := H.ext hcl; clear hcl) | (refine' y30 ent50 ?_ ?_; rotate_left; exact c_Rleft hp hs (H.memF hF) hm; intro w hcl; replace H := H.ext hcl; clear hcl) | refine y13 ?_ | refine y14 ?_ | (refine y17 ?_ ?_; all_goals intro h) | with_reducible apply OW.nil | with_reducible apply thn_n | with_reducible apply CW.seq | refine CW.region ?_ | with_reducible apply CW.ret | with_reducible apply CW.skip | with_reducible apply thn_r | refine y22 ?_ | (refine y23 ?_ ?_; all_goals intro h) | fail)
  all_goals exact ret1 rfl H.cl (congrArg (Value.int .i64) (by unfold endE; simp only [beq_iff_eq, decide_eq_true_eq, decide_eq_false_iff_not, beq_eq_false_iff_ne, gt_iff_lt] at *; (first | (rw [if_pos (by omega)]; done) | (rw [if_neg (by omega)]; done))))
theorem c_wNew {w0 : World} (s : ByteArray) : Calls Tryz.prog 45 [.string s].toArray w0 (RetF (fun N v => ∃ b, v = ptr b ∧ N = [rd b s ⟨0, 0, 0, false⟩]) w0) := by
  refine enter [.tmp 2] Tryz.func45 rfl Tryz.ntmps45 rfl rfl ?_
  have H := St.start w0
  repeat' (first | refine y1 sg ?_ | refine y3 ?_ | (refine y9 H ?_; intro b w H) | with_reducible apply OW.nil | with_reducible apply thn_n | with_reducible apply CW.seq | refine CW.region ?_ | with_reducible apply CW.ret | fail)
  exact retVF (vs := [_]) ⟨rdvT rfl, trivial⟩ H ⟨_, rfl, rfl⟩
theorem c_Raw {w0 w : World} {G : Frag} {pr : Nat} {s : ByteArray} {p : Rs} {q : Int} (n : Nat) (hq : q = (n : Int)) (hn : n ≤ 4611686018427387904) (he : p.e = 0) (hp : p.pos ≤ s.size) (hs : s.size ≤ 1073741824) (hn : p.pos + n ≤ s.size) (H : St w0 (rd pr s p :: G) w) :
    Calls Tryz.prog 46 [ptr pr, .int .i64 q].toArray w (RetF (RdF pr s G ⟨p.pos + n, p.e, p.to, p.bad⟩ (.string (s.extract p.pos (p.pos + n)))) w0) := by
  subst hq
  have hmx : max (n : Int) 0 = (n : Int) := by omega
  refine enter [.tmp 4] Tryz.func46 rfl Tryz.ntmps46 rfl rfl ?_
  repeat' (first | refine y1 sg ?_ | refine y3 ?_ | (refine' y33 ent116 ?_ ?_; rotate_left 2; exact c_takeG n (by omega) he hs hn H; rintro v N w ⟨rfl, rfl⟩ H) | with_reducible apply OW.nil | with_reducible apply thn_n | with_reducible apply CW.seq | refine CW.region ?_ | with_reducible apply CW.ret | fail)
  exact retVF (vs := [_]) ⟨rdvT rfl, trivial⟩ H ⟨rfl, rfl⟩
def textP (most : Nat) (x : ByteArray) (l : List Nat) : Prop := x.size ≤ most ∧ l = short x.size ++ strL x
def TextR (pr : Nat) (s : ByteArray) (G : Frag) (p : Rs) (most : Nat) : Frag → Value → Prop := fun N v => ∃ (x : ByteArray) (p' : Rs), v = .string x ∧ N = rd pr s p' :: G ∧ x.size ≤ most ∧ p'.bad = p.bad ∧ Step (strL s) (textP most) p p' x
theorem c_Rtext {w0 w : World} {G : Frag} {pr : Nat} {s : ByteArray} {p : Rs} (most : Nat) (hm : most ≤ 1073741824) (hp : p.pos ≤ s.size) (hs : s.size ≤ 1073741824) (H : St w0 (rd pr s p :: G) w) :
    Calls Tryz.prog 123 [ptr pr, .int .i64 (most : Int)].toArray w (RetF (TextR pr s G p most) w0) := by
  have hlen := strL_len s
  by_cases he : p.e = 0
  · have hd : decide (p.e = 0) = true := decide_eq_true he
    have hmw : IntKind.u64.wrap (if 0 > (most : Int) then 0 else (most : Int)) = (most : Int) := by rw [if_neg (by omega), w64u (by omega)]
    refine enter [.tmp 4] Tryz.func123 rfl Tryz.ntmps123 rfl rfl ?_
    repeat' (first | refine y1 sg ?_ | refine y3 ?_ | refine y7 sg H ?_ | (refine' y30 ent188 ?_ ?_; rotate_left; exact hd ▸ c_good H.mem (List.Mem.head _); intro w hcl; replace H := H.ext hcl; clear hcl) | (refine' y33 ent190 ?_ ?_; rotate_left 2; exact c_rShort most hmw (by omega) hp hs H; rintro v N w ⟨n, p', rfl, rfl, hn, hb, hS⟩ H) | with_reducible apply OW.nil | with_reducible apply thn_n | with_reducible apply CW.seq | refine CW.region ?_ | with_reducible apply CW.skip | refine y22 ?_ | fail)
    obtain ⟨hi, hsnd, hcpl⟩ := hS
    by_cases he' : p'.e = 0
    · have hd' : (p'.e != 0) = false := by simp [he']
      have hz : IntKind.u64.wrap (IntKind.i64.wrap ((s.size : Int) - (p'.pos : Int))) = ((s.size - p'.pos : Nat) : Int) := by rw [w64 (by omega) (by omega), show (s.size : Int) - (p'.pos : Int) = ((s.size - p'.pos : Nat) : Int) by omega, w64u (by omega)]
      have hnn : IntKind.i64.wrap (n : Int) = (n : Int) := w64 (by omega) (by omega)
      by_cases hl : s.size < p'.pos + n
      · have hlt : decide (IntKind.u64.wrap (IntKind.i64.wrap ((s.size : Int) - (p'.pos : Int))) < (n : Int)) = true := decide_eq_true (by rw [hz]; omega)
        repeat' (first | refine y1 sg ?_ | refine y2 sg ?_ | refine y3 ?_ | refine y4 ?_ | refine y8 sg H ?_ | (refine' y33 ent189 ?_ ?_; rotate_left 2; exact c_rwrong p.pos rfl H; rintro v N w ⟨rfl, rfl⟩ H) | with_reducible apply OW.nil | (with_reducible apply QW.nil; intro w hcl; replace H := H.ext hcl; clear hcl) | with_reducible apply thn_n | with_reducible apply CW.seq | refine CW.region ?_ | refine y20 mixed ?_ | with_reducible apply CW.ret | with_reducible apply CW.skip | with_reducible apply thn_r | (refine y23 ?_ ?_; all_goals (intro h; try (exfalso; first | ((rw [hd'] at h; cases h); done) | ((rw [hlt] at h; cases h); done)))) | fail)
        exact retVF (vs := [_]) ⟨rdvT rfl, trivial⟩ H ⟨ByteArray.empty, _, rfl, rfl, Nat.zero_le _, hb, by simp only; omega, fun h => absurd h.1 (by simp), fun hl y l r hy hr => (by
          obtain ⟨hy1, rfl⟩ := hy
          rw [List.append_assoc] at hr
          obtain ⟨e1, e2, e3⟩ := hcpl hl y.size _ _ ⟨by omega, rfl⟩ hr
          have := congrArg List.length e3
          rw [List.length_drop, List.length_append, strL_len, strL_len] at this
          omega)⟩
      · have hlt : decide (IntKind.u64.wrap (IntKind.i64.wrap ((s.size : Int) - (p'.pos : Int))) < (n : Int)) = false := decide_eq_false (by rw [hz]; omega)
        repeat' (first | refine y1 sg ?_ | refine y2 sg ?_ | refine y3 ?_ | refine y4 ?_ | refine y8 sg H ?_ | (refine' y33 ent46 ?_ ?_; rotate_left 2; exact c_Raw n hnn (by omega) he' (by omega) hs (by omega) H; rintro v N w ⟨rfl, rfl⟩ H) | with_reducible apply OW.nil | (with_reducible apply QW.nil; intro w hcl; replace H := H.ext hcl; clear hcl) | with_reducible apply thn_n | with_reducible apply CW.seq | refine CW.region ?_ | refine y20 mixed ?_ | with_reducible apply CW.ret | with_reducible apply CW.skip | (refine y23 ?_ ?_; all_goals (intro h; try (exfalso; first | ((rw [hd'] at h; cases h); done) | ((rw [hlt] at h; cases h); done)))) | fail)
        have hx : strL (s.extract p'.pos (p'.pos + n)) = ((strL s).drop p'.pos).take n := by rw [strL_extract]; congr 1; omega
        have hxs : (s.extract p'.pos (p'.pos + n)).size = n := by rw [← strL_len, hx, List.length_take, List.length_drop]; omega
        have hdr : (strL s).drop p'.pos = strL (s.extract p'.pos (p'.pos + n)) ++ (strL s).drop (p'.pos + n) := by rw [hx, ← List.drop_drop, List.take_append_drop]
        refine retVF (vs := [_]) ⟨rdvT rfl, trivial⟩ H ⟨_, _, rfl, rfl, by omega, hb, by simp only; omega, fun h => ?_, fun hl y l r hy hr => ?_⟩
        · obtain ⟨h1, l, ⟨_, rfl⟩, h2⟩ := hsnd h
          exact ⟨h1, _, ⟨by omega, rfl⟩, by rw [h2, hxs, List.append_assoc]; exact congrArg _ hdr⟩
        · obtain ⟨hy1, rfl⟩ := hy
          rw [List.append_assoc] at hr
          obtain ⟨e1, e2, e3⟩ := hcpl hl y.size _ _ ⟨by omega, rfl⟩ hr
          rw [hdr] at e3
          obtain ⟨e4, e5⟩ := List.append_inj e3 (by rw [strL_len, strL_len]; omega)
          exact ⟨e1, strL_inj e4, e5⟩
    · have hd' : (p'.e != 0) = true := by simp [he']
      repeat' (first | refine y1 sg ?_ | with_reducible apply OW.nil | with_reducible apply thn_n | with_reducible apply CW.seq | refine CW.region ?_ | with_reducible apply CW.ret | with_reducible apply thn_r | (refine y23 ?_ ?_; all_goals (intro h; try (exfalso; first | ((rw [hd'] at h; cases h); done)))) | fail)
      exact retVF (vs := [_]) ⟨rdvT rfl, trivial⟩ H ⟨ByteArray.empty, _, rfl, rfl, Nat.zero_le _, hb, hi, fun h => absurd h.1 he', fun hl y l r hy hr => (by
        obtain ⟨hy1, rfl⟩ := hy
        rw [List.append_assoc] at hr
        exact absurd (hcpl hl y.size _ _ ⟨by omega, rfl⟩ hr).1.1 he')⟩
  · have hd : decide (p.e = 0) = false := decide_eq_false he
    refine enter [.tmp 4] Tryz.func123 rfl Tryz.ntmps123 rfl rfl ?_
    repeat' (first | refine y1 sg ?_ | refine y3 ?_ | (refine' y30 ent188 ?_ ?_; rotate_left; exact hd ▸ c_good H.mem (List.Mem.head _); intro w hcl; replace H := H.ext hcl; clear hcl) | with_reducible apply OW.nil | with_reducible apply thn_n | with_reducible apply CW.seq | refine CW.region ?_ | with_reducible apply CW.ret | with_reducible apply thn_r | refine y21 ?_ | fail)
    exact retVF (vs := [_]) ⟨rdvT rfl, trivial⟩ H ⟨ByteArray.empty, p, rfl, rfl, Nat.zero_le _, rfl, Step.dead (by omega) (fun h => he h.1) (fun h => he h.1)⟩
end Go.Proofs.YtggolnppckpdlaaGreat
set_option linter.unusedSimpArgs false
set_option linter.unusedVariables false
namespace Go.Proofs.YtggolnppckpdlaaGreat
open Go Go.Sk Go.RowKit
def within (n m : Int) : Bool := decide (n ≥ 1) && decide (n ≤ m)
theorem c_within64 (n m : Int) (w : World) : Calls Tryz.prog 297 [.int .i64 n, .int .i64 m].toArray w (Ret (.bool (within n m)) w) := by
  refine enter [.tmp 4] Tryz.func297 rfl Tryz.ntmps297 rfl rfl ?_
  have H := St.start w
  repeat' (first | refine y1 sg ?_ | refine y5 sg ?_ | refine y13 ?_ | refine y14 ?_ | (refine y17 ?_ ?_; all_goals intro h) | with_reducible apply OW.nil | with_reducible apply thn_n | with_reducible apply CW.seq | refine CW.region ?_ | with_reducible apply CW.ret | fail)
  all_goals exact ret1 rfl H.cl (by simp [within, h])
theorem c_withinI (n m : Int) (w : World) : Calls Tryz.prog 298 [.int .i64 n, .int .i64 m].toArray w (Ret (.bool (within n m)) w) := by
  refine enter [.tmp 4] Tryz.func298 rfl Tryz.ntmps298 rfl rfl ?_
  have H := St.start w
  repeat' (first | refine y1 sg ?_ | refine y5 sg ?_ | refine y13 ?_ | refine y14 ?_ | (refine y17 ?_ ?_; all_goals intro h) | with_reducible apply OW.nil | with_reducible apply thn_n | with_reducible apply CW.seq | refine CW.region ?_ | with_reducible apply CW.ret | fail)
  all_goals exact ret1 rfl H.cl (by simp [within, h])
structure Bid where
  acct : Int
  amount : Int
  deriving DecidableEq, Inhabited
def Bid.cells (b : Bid) : List Value := [.int .i64 b.acct, .int .i64 b.amount]
structure Auc where
  id : Int
  seller : Int
  inst : Int
  sealed : Bool
  qty : Int
  reserve : Int
  step : Int
  fin : Int
  bids : List Bid
  deriving DecidableEq, Inhabited
def Auc.cells (x : Auc) (a : Option Addr) (cap : Nat) : List Value :=
  [.int .i64 x.id, .int .i64 x.seller, .int .i64 x.inst, .bool x.sealed, .int .i64 x.qty, .int .i64 x.reserve, .int .i64 x.step, .int .i64 x.fin, .slice a x.bids.length cap]
def bel (l : List Bid) (j : Nat) : List Value := (l.getD j default).cells
def Bids (F : Frag) (a : Option Addr) (cap : Nat) (l : List Bid) : Prop := SlA F 2 a l.length cap (bel l)
theorem c_of (x : Auc) (a : Option Addr) (cap : Nat) (w : World) : Calls Tryz.prog 299 [.agg (x.cells a cap).toArray].toArray w (Ret (.iface (if x.sealed then 326 else 327) (.agg #[])) w) := by
  refine enter [.tmp 2] Tryz.func299 rfl Tryz.ntmps299 rfl rfl ?_
  have H := St.start w
  repeat' (first | refine y1 sg ?_ | refine y3 ?_ | refine y7 sg H ?_ | (refine y9 H ?_; intro b w H) | with_reducible apply OW.nil | with_reducible apply thn_n | with_reducible apply CW.seq | refine CW.region ?_ | with_reducible apply CW.ret | with_reducible apply CW.skip | with_reducible apply thn_r | (refine y23 ?_ ?_; all_goals intro h) | fail)
  all_goals exact ret1 rfl H.cl (by simp [h])
theorem c_bids1 (c d : Bid) (T : TypeId) (b : Nat) (w : World) (F : Frag) (hF : Mem w F) (hm : (b, Obj.cells d.cells.toArray T (0, 0)) ∈ F) :
    Calls Tryz.prog 311 [.agg c.cells.toArray, .pointer (some ⟨b, 0, none⟩)].toArray w (Ret (.bool (c.acct == d.acct)) w) := by
  refine enter [.tmp 3] Tryz.func311 rfl Tryz.ntmps311 rfl rfl ?_
  have H := St.start w
  repeat' (first | refine y1 sg ?_ | refine y3 ?_ | refine y7 sg H ?_ | (refine y9 H ?_; intro b w H) | (refine OX.val rfl rfl (Yq.loadS sg rfl rfl (H.memF hF) hm rfl rfl) ?_) | with_reducible apply OW.nil | with_reducible apply thn_n | with_reducible apply CW.seq | refine CW.region ?_ | with_reducible apply CW.ret | fail)
  all_goals exact ret1 rfl H.cl rfl
end Go.Proofs.YtggolnppckpdlaaGreat
set_option linter.unusedSimpArgs false
set_option linter.unusedVariables false
namespace Go.Proofs.YtggolnppckpdlaaGreat
open Go Go.Sk Go.RowKit
def idxFrom (p : Nat → Bool) : Nat → Nat → Int
  | _, 0 => -1
  | k, n + 1 => if p k then (k : Int) else idxFrom p (k + 1) n
def idx (p : Nat → Bool) (n : Nat) : Int := idxFrom p 0 n
theorem idxFrom_skip (p : Nat → Bool) : ∀ (k s m : Nat), (∀ j, j < k → p (s + j) = false) → k ≤ m → idxFrom p s m = idxFrom p (s + k) (m - k)
  | 0, s, m, _, _ => rfl
  | k + 1, s, m, h, hm => by
    obtain ⟨m', rfl⟩ : ∃ m', m = m' + 1 := ⟨m - 1, by omega⟩
    have h0 := h 0 (by omega)
    simp only [Nat.add_zero] at h0
    rw [idxFrom, h0]
    simp only [Bool.false_eq_true, if_false]
    rw [idxFrom_skip p k (s + 1) m' (fun j hj => by have := h (j + 1) (by omega); rwa [show s + 1 + j = s + (j + 1) by omega]) (by omega)]
    congr 1 <;> omega
theorem idx_hit {p : Nat → Bool} {n k : Nat} (hk : k < n) (h : ∀ j, j < k → p j = false) (h1 : p k = true) : idx p n = k := by
  unfold idx
  rw [idxFrom_skip p k 0 n (by simpa using h) (by omega)]
  obtain ⟨m, hm⟩ : ∃ m, n - k = m + 1 := ⟨n - k - 1, by omega⟩
  rw [hm, idxFrom, Nat.zero_add, h1]; rfl
theorem idx_miss {p : Nat → Bool} {n : Nat} (h : ∀ j, j < n → p j = false) : idx p n = -1 := by
  unfold idx
  rw [idxFrom_skip p n 0 n (by simpa using h) (Nat.le_refl _), Nat.sub_self]; rfl
theorem idx_cases (p : Nat → Bool) (n : Nat) : (∃ k, k < n ∧ (∀ j, j < k → p j = false) ∧ p k = true ∧ idx p n = k) ∨ ((∀ j, j < n → p j = false) ∧ idx p n = -1) := by
  by_cases h : ∃ k, k < n ∧ p k = true
  · have : ∃ k, k < n ∧ (∀ j, j < k → p j = false) ∧ p k = true := by
      obtain ⟨k, hk⟩ := h
      induction k using Nat.strongRecOn with
      | _ k ih =>
        by_cases h2 : ∃ j, j < k ∧ p j = true
        · obtain ⟨j, hj, hp⟩ := h2
          exact ih j hj ⟨by omega, hp⟩
        · exact ⟨k, hk.1, fun j hj => by cases hp : p j with | false => rfl | true => exact absurd ⟨j, hj, hp⟩ h2, hk.2⟩
    obtain ⟨k, h1, h2, h3⟩ := this
    exact .inl ⟨k, h1, h2, h3, idx_hit h1 h2 h3⟩
  · have h' : ∀ j, j < n → p j = false := fun j hj => by cases hp : p j with | false => rfl | true => exact absurd ⟨j, hj, hp⟩ h
    exact .inr ⟨h', idx_miss h'⟩
theorem c_IndexBid {n cap : Nat} {a : Option Addr} {el : Nat → List Value} {f : FuncId} {caps : List Value} {F : Frag} (p : Nat → Bool) (w0 : World) (hF : Mem w0 F) (hs : SlA F 2 a n cap el) (hf : Ent Tryz.prog f)
    (hp : ∀ j, j < n → ∀ w, Cl w0 w → Calls Tryz.prog f ([Value.agg (el j).toArray] ++ caps).toArray w (Ret (.bool (p j)) w)) :
    Calls Tryz.prog 282 [.slice a n cap, .func (.func f) #[] caps.toArray].toArray w0 (Ret (.int .i64 (idx p n)) w0) := by
  obtain ⟨hn, hc, b, off, cs, T, fr, hs⟩ := hs
  refine enter [.tmp 4] Tryz.func282 rfl Tryz.ntmps282 rfl rfl ?_
  have H := St.start w0
  repeat' (first | refine y1 sg ?_ | with_reducible apply OW.nil | with_reducible apply thn_n | with_reducible apply CW.seq | refine CW.region ?_ | with_reducible apply CW.block | fail)
  refine CW.loopI [(4, 5), (8, 18)] (fun k : Nat => [(8, .int .i64 (k : Int))]) (fun k w => k ≤ n ∧ (∀ j, j < k → p j = false) ∧ St w0 [] w) (fun k => n - k) 0 ⟨rfl, trivial⟩ ⟨Nat.zero_le _, fun j hj => by omega, H⟩ ?_
  clear H
  rintro k g w ⟨hk, hpk, H⟩
  repeat' (first | refine y1 sg ?_ | with_reducible apply OW.nil | with_reducible apply thn_n | with_reducible apply CW.seq | refine CW.region ?_ | fail)
  refine CW.cond rfl (fun h => ?_) (fun h => ?_)
  · have hlt : k < n := by simpa using h
    repeat' (first | refine y1 sg ?_ | refine y3 ?_ | (refine OX.val rfl rfl (Yq.ixB sg hs rfl rfl rfl rfl rfl rfl rfl rfl (by omega) (by omega)) ?_) | (refine OX.val rfl rfl (Yq.loadB sg hs (H.memF hF) rfl rfl rfl rfl rfl hlt) ?_) | (refine OX.call rfl rfl (En.cloV hf rfl rfl rfl) (hp k hlt _ H.cl) ?_; intro w hcl; replace H := H.ext hcl; clear hcl) | with_reducible apply OW.nil | with_reducible apply thn_n | with_reducible apply CW.seq | refine CW.region ?_ | with_reducible apply CW.block | with_reducible apply CW.skip | fail)
    refine CW.cond rfl (fun h2 => ?_) (fun h2 => ?_)
    · repeat' (first | refine y1 sg ?_ | with_reducible apply OW.nil | with_reducible apply thn_n | with_reducible apply CW.seq | refine CW.region ?_ | with_reducible apply CW.ret | with_reducible apply thn_r | with_reducible apply blk_r | fail)
      exact ret1 rfl H.cl (by rw [idx_hit hlt hpk h2])
    · repeat' (first | refine y1 sg ?_ | with_reducible apply OW.nil | with_reducible apply thn_n | refine CW.region ?_ | with_reducible apply CW.skip | fail)
      refine Again.mk (k + 1) rfl ⟨vsucc (by omega), trivial⟩ ⟨hlt, fun j hj => ?_, H⟩ (by omega)
      by_cases hj' : j = k
      · rw [hj', h2]
      · exact hpk j (by omega)
  · repeat' (first | refine y1 sg ?_ | with_reducible apply OW.nil | with_reducible apply thn_n | with_reducible apply CW.seq | refine CW.region ?_ | with_reducible apply CW.ret | with_reducible apply CW.exit | with_reducible apply thn_e | refine y24 ?_ | fail)
    have hkn : k = n := by simp at h; omega
    exact ret1 rfl H.cl (by rw [idx_miss (hkn ▸ hpk)])
theorem c_ContainsBid {n cap : Nat} {a : Option Addr} {el : Nat → List Value} {f : FuncId} {caps : List Value} {F : Frag} (p : Nat → Bool) (w0 : World) (hF : Mem w0 F) (hs : SlA F 2 a n cap el) (hf : Ent Tryz.prog f)
    (hp : ∀ j, j < n → ∀ w, Cl w0 w → Calls Tryz.prog f ([Value.agg (el j).toArray] ++ caps).toArray w (Ret (.bool (p j)) w)) :
    Calls Tryz.prog 245 [.slice a n cap, .func (.func f) #[] caps.toArray].toArray w0 (Ret (.bool (decide (idx p n ≥ 0))) w0) := by
  refine enter [.tmp 4] Tryz.func245 rfl Tryz.ntmps245 rfl rfl ?_
  have H := St.start w0
  repeat' (first | refine y1 sg ?_ | refine y3 ?_ | (refine' y30 ent282 ?_ ?_; rotate_left; exact c_IndexBid p _ (H.memF hF) hs hf (fun j hj w' hw' => hp j hj w' (H.cl.trans hw')); intro w hcl; replace H := H.ext hcl; clear hcl) | with_reducible apply OW.nil | with_reducible apply thn_n | with_reducible apply CW.seq | refine CW.region ?_ | with_reducible apply CW.ret | fail)
  all_goals exact ret1 rfl H.cl rfl
theorem c_IndexAuc {n cap : Nat} {a : Option Addr} {el : Nat → List Value} {f : FuncId} {caps : List Value} {F : Frag} (p : Nat → Bool) (w0 : World) (hF : Mem w0 F) (hs : SlA F 9 a n cap el) (hf : Ent Tryz.prog f)
    (hp : ∀ j, j < n → ∀ w, Cl w0 w → Calls Tryz.prog f ([Value.agg (el j).toArray] ++ caps).toArray w (Ret (.bool (p j)) w)) :
    Calls Tryz.prog 284 [.slice a n cap, .func (.func f) #[] caps.toArray].toArray w0 (Ret (.int .i64 (idx p n)) w0) := by
  obtain ⟨hn, hc, b, off, cs, T, fr, hs⟩ := hs
  refine enter [.tmp 4] Tryz.func284 rfl Tryz.ntmps284 rfl rfl ?_
  have H := St.start w0
  repeat' (first | refine y1 sg ?_ | with_reducible apply OW.nil | with_reducible apply thn_n | with_reducible apply CW.seq | refine CW.region ?_ | with_reducible apply CW.block | fail)
  refine CW.loopI [(4, 5), (8, 18)] (fun k : Nat => [(8, .int .i64 (k : Int))]) (fun k w => k ≤ n ∧ (∀ j, j < k → p j = false) ∧ St w0 [] w) (fun k => n - k) 0 ⟨rfl, trivial⟩ ⟨Nat.zero_le _, fun j hj => by omega, H⟩ ?_
  clear H
  rintro k g w ⟨hk, hpk, H⟩
  repeat' (first | refine y1 sg ?_ | with_reducible apply OW.nil | with_reducible apply thn_n | with_reducible apply CW.seq | refine CW.region ?_ | fail)
  refine CW.cond rfl (fun h => ?_) (fun h => ?_)
  · have hlt : k < n := by simpa using h
    repeat' (first | refine y1 sg ?_ | refine y3 ?_ | (refine OX.val rfl rfl (Yq.ixB sg hs rfl rfl rfl rfl rfl rfl rfl rfl (by omega) (by omega)) ?_) | (refine OX.val rfl rfl (Yq.loadB sg hs (H.memF hF) rfl rfl rfl rfl rfl hlt) ?_) | (refine OX.call rfl rfl (En.cloV hf rfl rfl rfl) (hp k hlt _ H.cl) ?_; intro w hcl; replace H := H.ext hcl; clear hcl) | with_reducible apply OW.nil | with_reducible apply thn_n | with_reducible apply CW.seq | refine CW.region ?_ | with_reducible apply CW.block | with_reducible apply CW.skip | fail)
    refine CW.cond rfl (fun h2 => ?_) (fun h2 => ?_)
    · repeat' (first | refine y1 sg ?_ | with_reducible apply OW.nil | with_reducible apply thn_n | with_reducible apply CW.seq | refine CW.region ?_ | with_reducible apply CW.ret | with_reducible apply thn_r | with_reducible apply blk_r | fail)
      exact ret1 rfl H.cl (by rw [idx_hit hlt hpk h2])
    · repeat' (first | refine y1 sg ?_ | with_reducible apply OW.nil | with_reducible apply thn_n | refine CW.region ?_ | with_reducible apply CW.skip | fail)
      refine Again.mk (k + 1) rfl ⟨vsucc (by omega), trivial⟩ ⟨hlt, fun j hj => ?_, H⟩ (by omega)
      by_cases hj' : j = k
      · rw [hj', h2]
      · exact hpk j (by omega)
  · repeat' (first | refine y1 sg ?_ | with_reducible apply OW.nil | with_reducible apply thn_n | with_reducible apply CW.seq | refine CW.region ?_ | with_reducible apply CW.ret | with_reducible apply CW.exit | with_reducible apply thn_e | refine y24 ?_ | fail)
    have hkn : k = n := by simp at h; omega
    exact ret1 rfl H.cl (by rw [idx_miss (hkn ▸ hpk)])
end Go.Proofs.YtggolnppckpdlaaGreat
