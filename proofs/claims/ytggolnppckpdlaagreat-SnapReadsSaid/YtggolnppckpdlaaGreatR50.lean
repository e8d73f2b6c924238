/- Texts of ours, joined: the steps of the proof, or the claim's theorem. -/
import Derived.Test.YtggolnppckpdlaaGreatR31
import Derived.Test.YtggolnppckpdlaaGreatR35
set_option linter.unusedSimpArgs false
set_option linter.unusedVariables false
namespace Go.Proofs.YtggolnppckpdlaaGreat
open Go Go.Sk Go.RowKit
attribute [local irreducible] Go.Calls
inductive Spo : zI → zI → Prop
 | nil : Spo [] []
 | cons {b : Nat} {cs cs' : List Value} {T : TypeId} {N N' : zI} (hl : cs.length = cs'.length) (hk : ∀ (i : Nat) a n c, cs[i]? = some (Value.slice a n c) → cs'[i]? = some (Value.slice a n c)) (h : Spo N N') : Spo (cb b cs T :: N) (cb b cs' T :: N')
theorem Spo.refl : ∀ {N : zI}, Fz N → Spo N N
 | [], _ => .nil
 | (b, o) :: N, h => by
   obtain ⟨cs, T, e⟩ := h _ (List.Mem.head _)
   simp only at e
   subst e
   have : cs = cs.toList.toArray := by cases cs; rfl
   rw [this]
   exact .cons rfl (fun _ _ _ _ h => h) (Spo.refl fun p hp => h p (List.mem_cons_of_mem _ hp))
theorem Fz.fr {N : zI} (h : Fz N) {b : Nat} {cs : Array Value} {T : TypeId} {fr : Nat × Nat} (hm : (b, Obj.cells cs T fr) ∈ N) : fr = (0, 0) := by
 obtain ⟨c, t, e⟩ := h _ hm
 injection e
theorem Spo.get {N N' : zI} (h : Spo N N') {b : Nat} {cs : List Value} {T : TypeId} (hm : cb b cs T ∈ N) : ∃ cs', cb b cs' T ∈ N' ∧ cs.length = cs'.length ∧ ∀ (i : Nat) a n c, cs[i]? = some (Value.slice a n c) → cs'[i]? = some (Value.slice a n c) := by
 induction h with
 | nil => cases hm
 | cons hl hk _ ih =>
   rcases List.mem_cons.1 hm with e | e
   ·injection e with e1 e2
    injection e2 with e3 e4 e5
    have e3 := congrArg Array.toList e3
    simp only at e3
    subst e1; subst e3; subst e4
    exact ⟨_, List.Mem.head _, hl, hk⟩
   ·obtain ⟨c, h1, h2⟩ := ih e
    exact ⟨c, List.Mem.tail _ h1, h2⟩
theorem Spo.put {N N' : zI} (h : Spo N N') {b : Nat} {cs : List Value} {T : TypeId} (hm : cb b cs T ∈ N) {i : Nat} {u v : Value} (hi : cs[i]? = some u) (hu : ∀ a n c, u ≠ Value.slice a n c) :
  ∃ cs' N'', Up b (.cells cs'.toArray T (0, 0)) (.cells (wr cs' i [v]).toArray T (0, 0)) N' N'' ∧ Spo N N'' ∧ i < cs'.length := by
 induction h with
 | nil => cases hm
 | @cons b0 c0 c0' T0 M M' hl hk hs ih =>
   rcases List.mem_cons.1 hm with e | e
   ·injection e with e1 e2
    injection e2 with e3 e4 e5
    have e3 := congrArg Array.toList e3
    simp only at e3
    subst e1; subst e3; subst e4
    have hlt : i < c0'.length := by rw [← hl]; exact (List.getElem?_eq_some_iff.1 hi).1
    refine ⟨c0', _, Up.here, .cons (by rw [zFr (by simp; omega)]; exact hl) (fun j a n c hj => ?_) hs, hlt⟩
    rw [zD6 (by simp; omega)]
    by_cases hij : i = j
    ·subst hij; rw [hi] at hj; injection hj with hj; exact absurd hj (hu a n c)
    ·rw [if_neg (by simp; omega)]; exact hk j a n c hj
   ·obtain ⟨cs', N'', h1, h2, h3⟩ := ih e
    exact ⟨cs', _, Up.there h1, .cons hl hk h2, h3⟩
theorem upApp {b : Nat} {o o' : Obj} {L L' : zI} (h : Up b o o' L L') (G : zI) : Up b o o' (L ++ G) (L' ++ G) := by
 induction h with
 | here => exact Up.here
 | there _ ih => exact Up.there ih
theorem Spo.sl {N N' : zI} (h : Spo N N') {size m b off : Nat} {a : Option Addr} {cs : List Value} {T : TypeId} {el : Nat → List Value} (hs : SlB N size a m b off cs T (0, 0) el) :
  ∃ (cs' : List Value) (el' : Nat → List Value), SlB N' size a m b off cs' T (0, 0) el' ∧ ∀ (j f : Nat) (a : Option Addr) (n c : Nat), j < m → (el j)[f]? = some (Value.slice a n c) → (el' j)[f]? = some (Value.slice a n c) := by
 rcases Nat.eq_zero_or_pos m with rfl | hm
 ·exact ⟨cs, el, fun h => absurd h (Nat.lt_irrefl 0), fun j f a n c hj => absurd hj (Nat.not_lt_zero _)⟩
 obtain ⟨ha, hc, hel⟩ := hs hm
 obtain ⟨cs', h1, h2, h3⟩ := h.get hc
 refine ⟨cs', fun j => (cs'.drop (off + j * size)).take size, fun _ => ⟨ha, h1, fun j hj => ⟨h2 ▸ (hel j hj).1, rfl⟩⟩, fun j f a n c hj he => ?_⟩
 rw [← (hel j hj).2] at he
 have hf : f < size := by
  have := (List.getElem?_eq_some_iff.1 he).1
  rw [List.length_take] at this; omega
 simp only [List.getElem?_take, hf, if_true, List.getElem?_drop] at he ⊢
 exact h3 _ _ _ _ he
theorem OX.spo {P : Program} (S : Sig P) {n : Nw} {ops : Array Oper} {Q : zAX} {o : Oper} {rest : List Oper} {L : List (Nat × Value)} {b0 : Env} {w w0 : World} {N N' G : zI} {xb : Nat × Obj} {t : TypeId} {x y : Operand} {v u : Value} {size m b off : Nat} {a : Option Addr} {cs : List Value} {T : TypeId} {el : Nat → List Value} {j : Nat} {ti : TI} (f : Nat)
  (H : St w0 (xb :: (N' ++ G)) w) (hs : SlB N size a m b off cs T (0, 0) el) (hj : j < m) (hu : (el j)[f]? = some u) (hns : ∀ a n c, u ≠ Value.slice a n c) (hsp : Spo N N') (kk : ∀ N'' w', Spo N N'' → St w0 (xb :: (N'' ++ G)) w' → OW P n ops Q rest (ovl L b0) w')
  (ho : o.op = .store t x y) (hd : o.dst = none) (hx : ev (ovl L b0) x = .pointer (some ⟨b, off + j * size + f, none⟩)) (hy : ev (ovl L b0) y = v) (hv : v.cells = #[v]) (ht : lk S.tab t = some ti) (hsz : ti.size = 1) (h1 : v.oneCell' = true) : OX P n ops Q o rest (ovl L b0) w := by
 obtain ⟨_, hm, hel⟩ := hs (by omega)
 obtain ⟨e1, e2⟩ := hel j hj
 rw [← e2] at hu
 have hf : f < size := by
  have := (List.getElem?_eq_some_iff.1 hu).1
  rw [List.length_take] at this; omega
 simp only [List.getElem?_take, hf, if_true, List.getElem?_drop] at hu
 obtain ⟨cs', N'', h2, h3, h4⟩ := hsp.put (v := v) hm hu hns
 exact OX.storeX S H ho hd hx hy (vs := [v]) hv ht (by rw [hsz]; rfl) (Up.there (upApp h2 G)) h4 (by intro u hu; rw [List.mem_singleton] at hu; subst hu; exact h1) (fun w' H' => kk N'' w' h3 H')
theorem zD1 {N : zI} (hz : Fz N) {size m b off : Nat} {a : Option Addr} {cs : List Value} {T : TypeId} {fr : Nat × Nat} {el : Nat → List Value} (h : SlB N size a m b off cs T fr el) : SlB N size a m b off cs T (0, 0) el := fun h0 => by
 obtain ⟨h1, h2, h3⟩ := h h0
 obtain rfl := hz.fr h2
 exact ⟨h1, h2, h3⟩
set_option maxHeartbeats 4000000 in
theorem zQ5 {w0 w : World} {N G : zI} (s : Sta) (p : SPt) (hz : Fz N) (hs : StaM N s p) (H : St w0 (N ++ G) w) :
  Calls Tryz.prog 29 [.agg (s.cells p).toArray].toArray w (zf (fun M v => v = .tuple #[] ∧ ∃ N', M = N' ++ G ∧ Spo N N') w0) := by
 obtain ⟨ha, hi, hr, ho, hu⟩ := hs
 obtain ⟨hna, hca, ba, offa, csa, Ta, fra, ha⟩ := ha
 obtain ⟨hni, hci, bi, offi, csi, Ti, fri, hi⟩ := hi
 obtain ⟨hnr, hcr, br, offr, csr, Tr, frr, hr⟩ := hr
 obtain ⟨hno, hco, bo, offo, cso, To, fro, ho⟩ := ho
 obtain ⟨⟨hnu, hcu, bu, offu, csu, Tu, fru, hu⟩, hub⟩ := hu
 replace ha := zD1 hz ha
 replace hi := zD1 hz hi
 replace hr := zD1 hz hr
 replace ho := zD1 hz ho
 replace hu := zD1 hz hu
 refine enter [] Tryz.func29 rfl Tryz.ntmps29 rfl rfl ?_
 repeat' (first | refine y1 sg ?_ | refine y3 ?_ | (refine y9 H ?_; intro b w H) | (with_reducible first | apply zB | apply zD | apply zC | apply zE) | refine zA ?_ | fail)
 refine zK [(2, 2), (8, 19)] (fun y : Nat × zI => [(2, .int .i64 (y.1 : Int))]) (fun y w => St w0 (cb _ (s.cells p) 29 :: (y.2 ++ G)) w ∧ Spo N y.2 ∧ y.1 ≤ s.accts.length) (fun y => s.accts.length - y.1) (0, _) ⟨rfl, trivial⟩ ⟨H, Spo.refl hz, Nat.zero_le _⟩ ?_
 clear H
 rintro ⟨i, Nk⟩ gh w ⟨H, hsp, hk⟩
 simp only at H hsp hk ⊢
 by_cases hlt : i < s.accts.length
 ·have hd : decide ((i : Int) < (s.accts.length : Int)) = true := decide_eq_true (by omega)
  repeat' (first | refine y1 sg ?_ | refine y3 ?_ | refine y7 sg H ?_ | (refine y40 sg (ha) ?_ ?_ ?_; (omega); (omega)) | (refine OX.spo sg 0 H ha hlt rfl (by intro a n c h; cases h) hsp ?_ rfl rfl rfl rfl rfl rfl rfl rfl; intro N2 w hsp H) | (with_reducible first | apply zB | apply zD | apply zC | apply zE | apply zG) | refine zA ?_ | (refine y23 ?_ ?_; all_goals (intro h; try (exfalso; first | ((rw [hd] at h; cases h); done)))) | fail)
  exact zJ (i + 1, N2) rfl ⟨zT (by omega), trivial⟩ ⟨H, hsp, hlt⟩ (by simp only; omega)
 have hd : decide ((i : Int) < (s.accts.length : Int)) = false := decide_eq_false (by omega)
 repeat' (first | refine y1 sg ?_ | refine y3 ?_ | refine y7 sg H ?_ | (with_reducible first | apply zB | apply zD | apply zC) | refine zA ?_ | fail)
 refine zM rfl (fun h => absurd h (by rw [hd]; decide)) (fun _ => ?_)
 repeat' (first | refine y1 sg ?_ | (with_reducible first | apply zB | apply zD | apply zC | apply zE | apply zL | apply zS) | refine zA ?_ | refine y24 ?_ | fail)
 clear hd hlt hk
 refine zK [(3, 3), (20, 31)] (fun y : Nat × zI => [(3, .int .i64 (y.1 : Int))]) (fun y w => St w0 (cb _ (s.cells p) 29 :: (y.2 ++ G)) w ∧ Spo N y.2 ∧ y.1 ≤ s.insts.length) (fun y => s.insts.length - y.1) (0, _) ⟨rfl, trivial⟩ ⟨H, hsp, Nat.zero_le _⟩ ?_
 clear H hsp
 rintro ⟨i, Nk⟩ gh w ⟨H, hsp, hk⟩
 simp only at H hsp hk ⊢
 by_cases hlt : i < s.insts.length
 ·have hd : decide ((i : Int) < (s.insts.length : Int)) = true := decide_eq_true (by omega)
  repeat' (first | refine y1 sg ?_ | refine y3 ?_ | refine y7 sg H ?_ | (refine y40 sg (hi) ?_ ?_ ?_; (omega); (omega)) | (refine OX.spo sg 1 H hi hlt rfl (by intro a n c h; cases h) hsp ?_ rfl rfl rfl rfl rfl rfl rfl rfl; intro N2 w hsp H) | (with_reducible first | apply zB | apply zD | apply zC | apply zE | apply zG) | refine zA ?_ | (refine y23 ?_ ?_; all_goals (intro h; try (exfalso; first | ((rw [hd] at h; cases h); done)))) | fail)
  exact zJ (i + 1, N2) rfl ⟨zT (by omega), trivial⟩ ⟨H, hsp, hlt⟩ (by simp only; omega)
 have hd : decide ((i : Int) < (s.insts.length : Int)) = false := decide_eq_false (by omega)
 repeat' (first | refine y1 sg ?_ | refine y3 ?_ | refine y7 sg H ?_ | (with_reducible first | apply zB | apply zD | apply zC) | refine zA ?_ | fail)
 refine zM rfl (fun h => absurd h (by rw [hd]; decide)) (fun _ => ?_)
 repeat' (first | refine y1 sg ?_ | (with_reducible first | apply zB | apply zD | apply zC | apply zE | apply zL | apply zS) | refine zA ?_ | refine y24 ?_ | fail)
 clear hd hlt hk
 refine zK [(4, 4), (32, 43)] (fun y : Nat × zI => [(4, .int .i64 (y.1 : Int))]) (fun y w => St w0 (cb _ (s.cells p) 29 :: (y.2 ++ G)) w ∧ Spo N y.2 ∧ y.1 ≤ s.rows.length) (fun y => s.rows.length - y.1) (0, _) ⟨rfl, trivial⟩ ⟨H, hsp, Nat.zero_le _⟩ ?_
 clear H hsp
 rintro ⟨i, Nk⟩ gh w ⟨H, hsp, hk⟩
 simp only at H hsp hk ⊢
 by_cases hlt : i < s.rows.length
 ·have hd : decide ((i : Int) < (s.rows.length : Int)) = true := decide_eq_true (by omega)
  repeat' (first | refine y1 sg ?_ | refine y3 ?_ | refine y7 sg H ?_ | (refine y40 sg (hr) ?_ ?_ ?_; (omega); (omega)) | (refine OX.spo sg 2 H hr hlt rfl (by intro a n c h; cases h) hsp ?_ rfl rfl rfl rfl rfl rfl rfl rfl; intro N2 w hsp H) | (with_reducible first | apply zB | apply zD | apply zC | apply zE | apply zG) | refine zA ?_ | (refine y23 ?_ ?_; all_goals (intro h; try (exfalso; first | ((rw [hd] at h; cases h); done)))) | fail)
  exact zJ (i + 1, N2) rfl ⟨zT (by omega), trivial⟩ ⟨H, hsp, hlt⟩ (by simp only; omega)
 have hd : decide ((i : Int) < (s.rows.length : Int)) = false := decide_eq_false (by omega)
 repeat' (first | refine y1 sg ?_ | refine y3 ?_ | refine y7 sg H ?_ | (with_reducible first | apply zB | apply zD | apply zC) | refine zA ?_ | fail)
 refine zM rfl (fun h => absurd h (by rw [hd]; decide)) (fun _ => ?_)
 repeat' (first | refine y1 sg ?_ | (with_reducible first | apply zB | apply zD | apply zC | apply zE | apply zL | apply zS) | refine zA ?_ | refine y24 ?_ | fail)
 clear hd hlt hk
 refine zK [(5, 5), (44, 55)] (fun y : Nat × zI => [(5, .int .i64 (y.1 : Int))]) (fun y w => St w0 (cb _ (s.cells p) 29 :: (y.2 ++ G)) w ∧ Spo N y.2 ∧ y.1 ≤ s.orders.length) (fun y => s.orders.length - y.1) (0, _) ⟨rfl, trivial⟩ ⟨H, hsp, Nat.zero_le _⟩ ?_
 clear H hsp
 rintro ⟨i, Nk⟩ gh w ⟨H, hsp, hk⟩
 simp only at H hsp hk ⊢
 by_cases hlt : i < s.orders.length
 ·have hd : decide ((i : Int) < (s.orders.length : Int)) = true := decide_eq_true (by omega)
  repeat' (first | refine y1 sg ?_ | refine y3 ?_ | refine y7 sg H ?_ | (refine y40 sg (ho) ?_ ?_ ?_; (omega); (omega)) | (refine OX.spo sg 0 H ho hlt rfl (by intro a n c h; cases h) hsp ?_ rfl rfl rfl rfl rfl rfl rfl rfl; intro N2 w hsp H) | (with_reducible first | apply zB | apply zD | apply zC | apply zE | apply zG) | refine zA ?_ | (refine y23 ?_ ?_; all_goals (intro h; try (exfalso; first | ((rw [hd] at h; cases h); done)))) | fail)
  exact zJ (i + 1, N2) rfl ⟨zT (by omega), trivial⟩ ⟨H, hsp, hlt⟩ (by simp only; omega)
 have hd : decide ((i : Int) < (s.orders.length : Int)) = false := decide_eq_false (by omega)
 repeat' (first | refine y1 sg ?_ | refine y3 ?_ | refine y7 sg H ?_ | (with_reducible first | apply zB | apply zD | apply zC) | refine zA ?_ | fail)
 refine zM rfl (fun h => absurd h (by rw [hd]; decide)) (fun _ => ?_)
 repeat' (first | refine y1 sg ?_ | (with_reducible first | apply zB | apply zD | apply zC | apply zE | apply zL | apply zS) | refine zA ?_ | refine y24 ?_ | fail)
 clear hd hlt hk
 refine zK [(6, 7), (56, 87)] (fun y : Nat × zI => [(6, .int .i64 (y.1 : Int))]) (fun y w => St w0 (cb _ (s.cells p) 29 :: (y.2 ++ G)) w ∧ Spo N y.2 ∧ y.1 ≤ s.aucs.length) (fun y => s.aucs.length - y.1) (0, _) ⟨rfl, trivial⟩ ⟨H, hsp, Nat.zero_le _⟩ ?_
 clear H hsp
 rintro ⟨i, Nk⟩ gh w ⟨H, hsp, hk⟩
 simp only at H hsp hk ⊢
 by_cases hlt : i < s.aucs.length
 ·have hd : decide ((i : Int) < (s.aucs.length : Int)) = true := decide_eq_true (by omega)
  obtain ⟨hnb, hcb, bb, offb, csb, Tb, frb, hb⟩ := hub i hlt
  replace hb := zD1 hz hb
  repeat' (first | refine y1 sg ?_ | refine y3 ?_ | refine y7 sg H ?_ | (with_reducible first | apply zB | apply zD | apply zC) | refine zA ?_ | fail)
  refine zM rfl (fun _ => ?_) (fun h => absurd hd (by rw [h]; decide))
  repeat' (first | refine y1 sg ?_ | (with_reducible first | apply zB | apply zD | apply zC | apply zE | apply zG) | refine zA ?_ | fail)
  refine zK [(7, 7), (63, 82)] (fun y : Nat × zI => [(7, .int .i64 (y.1 : Int))]) (fun y w => St w0 (cb _ (s.cells p) 29 :: (y.2 ++ G)) w ∧ Spo N y.2 ∧ y.1 ≤ (s.aucs.getD i default).bids.length) (fun y => (s.aucs.getD i default).bids.length - y.1) (0, _) ⟨rfl, trivial⟩ ⟨H, hsp, Nat.zero_le _⟩ ?_
  clear H hsp
  rintro ⟨j, Nj⟩ gh2 w ⟨H, hsp, hkj⟩
  simp only at H hsp hkj ⊢
  obtain ⟨cs', el', hs', hk'⟩ := hsp.sl hu
  have hld : (match (el' i)[8]? with | some v => nf v | none => none) = some (.slice (p.ad i).1 (s.aucs.getD i default).bids.length (p.ad i).2) := by rw [hk' i 8 _ _ _ hlt rfl]; rfl
  have hMs : ∀ {x : Nat × Obj} {w : World}, St w0 (x :: (Nj ++ G)) w → Mem w Nj := fun H => H.mem.sub (fun p hp => List.mem_cons_of_mem _ (List.mem_append_left _ hp))
  by_cases hltj : j < (s.aucs.getD i default).bids.length
  ·have hdj : decide ((j : Int) < ((s.aucs.getD i default).bids.length : Int)) = true := decide_eq_true (by omega)
   repeat' (first | refine y1 sg ?_ | refine y3 ?_ | refine y7 sg H ?_ | (refine y40 sg (hu) ?_ ?_ ?_; (omega); (omega)) | (refine zY rfl rfl (zCs sg hs' (hMs H) rfl rfl rfl rfl hlt rfl hld) ?_) | (refine y40 sg (hb) ?_ ?_ ?_; (omega); (omega)) | (refine OX.spo sg 1 H hb hltj rfl (by intro a n c h; cases h) hsp ?_ rfl rfl rfl rfl rfl rfl rfl rfl; intro N2 w hsp H) | (with_reducible first | apply zB | apply zD | apply zC | apply zE | apply zG) | refine zA ?_ | (refine y23 ?_ ?_; all_goals (intro h; try (exfalso; first | ((rw [hdj] at h; cases h); done)))) | fail)
   exact zJ (j + 1, N2) rfl ⟨zT (by omega), trivial⟩ ⟨H, hsp, hltj⟩ (by simp only; omega)
  have hdj : decide ((j : Int) < ((s.aucs.getD i default).bids.length : Int)) = false := decide_eq_false (by omega)
  repeat' (first | refine y1 sg ?_ | refine y3 ?_ | refine y7 sg H ?_ | (refine y40 sg (hu) ?_ ?_ ?_; (omega); (omega)) | (refine zY rfl rfl (zCs sg hs' (hMs H) rfl rfl rfl rfl hlt rfl hld) ?_) | (refine OX.spo sg 0 H hu hlt rfl (by intro a n c h; cases h) hsp ?_ rfl rfl rfl rfl rfl rfl rfl rfl; intro N2 w hsp H) | (with_reducible first | apply zB | apply zD | apply zC | apply zL) | refine zA ?_ | (refine y23 ?_ ?_; all_goals (intro h; try (exfalso; first | ((rw [hdj] at h; cases h); done)))) | fail)
  exact zAY (i + 1, N2) rfl ⟨zT (by omega), trivial⟩ ⟨H, hsp, hlt⟩ (by simp only; omega)
 have hd : decide ((i : Int) < (s.aucs.length : Int)) = false := decide_eq_false (by omega)
 repeat' (first | refine y1 sg ?_ | refine y3 ?_ | refine y7 sg H ?_ | (with_reducible first | apply zB | apply zD | apply zC | apply zL | apply zS) | refine zA ?_ | refine y24 ?_ | (refine y23 ?_ ?_; all_goals (intro h; try (exfalso; first | ((rw [hd] at h; cases h); done)))) | fail)
 exact zu (vs := []) trivial (H.sub (List.sublist_cons_self _ _)) ⟨rfl, Nk, rfl, hsp⟩
set_option maxHeartbeats 4000000 in
theorem zO5 {w0 w : World} {N N0 G : zI} (v : Vws) (p : VPt) (hz : Fz N) (hs : VwM N v p) (hsp : Spo N N0) (H : St w0 (N0 ++ G) w) :
  Calls Tryz.prog 30 [.agg (v.cells p).toArray].toArray w (zf (fun M v => v = .tuple #[] ∧ M = G) w0) := by
 obtain ⟨ha, hi, hr, ho⟩ := hs
 obtain ⟨hna, hca, ba, offa, csa, Ta, fra, ha⟩ := ha
 obtain ⟨hni, hci, bi, offi, csi, Ti, fri, hi⟩ := hi
 obtain ⟨hnr, hcr, br, offr, csr, Tr, frr, hr⟩ := hr
 obtain ⟨hno, hco, bo, offo, cso, To, fro, ho⟩ := ho
 replace ha := zD1 hz ha
 replace hi := zD1 hz hi
 replace hr := zD1 hz hr
 replace ho := zD1 hz ho
 refine enter [] Tryz.func30 rfl Tryz.ntmps30 rfl rfl ?_
 repeat' (first | refine y1 sg ?_ | refine y3 ?_ | (refine y9 H ?_; intro b w H) | (with_reducible first | apply zB | apply zD | apply zC | apply zE) | refine zA ?_ | fail)
 refine zK [(2, 2), (6, 17)] (fun y : Nat × zI => [(2, .int .i64 (y.1 : Int))]) (fun y w => St w0 (cb _ (v.cells p) 35 :: (y.2 ++ G)) w ∧ Spo N y.2 ∧ y.1 ≤ v.opn.length) (fun y => v.opn.length - y.1) (0, _) ⟨rfl, trivial⟩ ⟨H, hsp, Nat.zero_le _⟩ ?_
 clear H hsp
 rintro ⟨i, Nk⟩ gh w ⟨H, hsp, hk⟩
 simp only at H hsp hk ⊢
 by_cases hlt : i < v.opn.length
 ·have hd : decide ((i : Int) < (v.opn.length : Int)) = true := decide_eq_true (by omega)
  repeat' (first | refine y1 sg ?_ | refine y3 ?_ | refine y7 sg H ?_ | (refine y40 sg (ha) ?_ ?_ ?_; (omega); (omega)) | (refine OX.spo sg 1 H ha hlt rfl (by intro a n c h; cases h) hsp ?_ rfl rfl rfl rfl rfl rfl rfl rfl; intro N2 w hsp H) | (with_reducible first | apply zB | apply zD | apply zC | apply zE | apply zG) | refine zA ?_ | (refine y23 ?_ ?_; all_goals (intro h; try (exfalso; first | ((rw [hd] at h; cases h); done)))) | fail)
  exact zJ (i + 1, N2) rfl ⟨zT (by omega), trivial⟩ ⟨H, hsp, hlt⟩ (by simp only; omega)
 have hd : decide ((i : Int) < (v.opn.length : Int)) = false := decide_eq_false (by omega)
 repeat' (first | refine y1 sg ?_ | refine y3 ?_ | refine y7 sg H ?_ | (with_reducible first | apply zB | apply zD | apply zC) | refine zA ?_ | fail)
 refine zM rfl (fun h => absurd h (by rw [hd]; decide)) (fun _ => ?_)
 repeat' (first | refine y1 sg ?_ | (with_reducible first | apply zB | apply zD | apply zC | apply zE | apply zL | apply zS) | refine zA ?_ | refine y24 ?_ | fail)
 clear hd hlt hk
 refine zK [(3, 3), (18, 29)] (fun y : Nat × zI => [(3, .int .i64 (y.1 : Int))]) (fun y w => St w0 (cb _ (v.cells p) 35 :: (y.2 ++ G)) w ∧ Spo N y.2 ∧ y.1 ≤ v.lots.length) (fun y => v.lots.length - y.1) (0, _) ⟨rfl, trivial⟩ ⟨H, hsp, Nat.zero_le _⟩ ?_
 clear H hsp
 rintro ⟨i, Nk⟩ gh w ⟨H, hsp, hk⟩
 simp only at H hsp hk ⊢
 by_cases hlt : i < v.lots.length
 ·have hd : decide ((i : Int) < (v.lots.length : Int)) = true := decide_eq_true (by omega)
  repeat' (first | refine y1 sg ?_ | refine y3 ?_ | refine y7 sg H ?_ | (refine y40 sg (hi) ?_ ?_ ?_; (omega); (omega)) | (refine OX.spo sg 0 H hi hlt rfl (by intro a n c h; cases h) hsp ?_ rfl rfl rfl rfl rfl rfl rfl rfl; intro N2 w hsp H) | (with_reducible first | apply zB | apply zD | apply zC | apply zE | apply zG) | refine zA ?_ | (refine y23 ?_ ?_; all_goals (intro h; try (exfalso; first | ((rw [hd] at h; cases h); done)))) | fail)
  exact zJ (i + 1, N2) rfl ⟨zT (by omega), trivial⟩ ⟨H, hsp, hlt⟩ (by simp only; omega)
 have hd : decide ((i : Int) < (v.lots.length : Int)) = false := decide_eq_false (by omega)
 repeat' (first | refine y1 sg ?_ | refine y3 ?_ | refine y7 sg H ?_ | (with_reducible first | apply zB | apply zD | apply zC) | refine zA ?_ | fail)
 refine zM rfl (fun h => absurd h (by rw [hd]; decide)) (fun _ => ?_)
 repeat' (first | refine y1 sg ?_ | (with_reducible first | apply zB | apply zD | apply zC | apply zE | apply zL | apply zS) | refine zA ?_ | refine y24 ?_ | fail)
 clear hd hlt hk
 refine zK [(4, 4), (30, 41)] (fun y : Nat × zI => [(4, .int .i64 (y.1 : Int))]) (fun y w => St w0 (cb _ (v.cells p) 35 :: (y.2 ++ G)) w ∧ Spo N y.2 ∧ y.1 ≤ v.poss.length) (fun y => v.poss.length - y.1) (0, _) ⟨rfl, trivial⟩ ⟨H, hsp, Nat.zero_le _⟩ ?_
 clear H hsp
 rintro ⟨i, Nk⟩ gh w ⟨H, hsp, hk⟩
 simp only at H hsp hk ⊢
 by_cases hlt : i < v.poss.length
 ·have hd : decide ((i : Int) < (v.poss.length : Int)) = true := decide_eq_true (by omega)
  repeat' (first | refine y1 sg ?_ | refine y3 ?_ | refine y7 sg H ?_ | (refine y40 sg (hr) ?_ ?_ ?_; (omega); (omega)) | (refine OX.spo sg 0 H hr hlt rfl (by intro a n c h; cases h) hsp ?_ rfl rfl rfl rfl rfl rfl rfl rfl; intro N2 w hsp H) | (with_reducible first | apply zB | apply zD | apply zC | apply zE | apply zG) | refine zA ?_ | (refine y23 ?_ ?_; all_goals (intro h; try (exfalso; first | ((rw [hd] at h; cases h); done)))) | fail)
  exact zJ (i + 1, N2) rfl ⟨zT (by omega), trivial⟩ ⟨H, hsp, hlt⟩ (by simp only; omega)
 have hd : decide ((i : Int) < (v.poss.length : Int)) = false := decide_eq_false (by omega)
 repeat' (first | refine y1 sg ?_ | refine y3 ?_ | refine y7 sg H ?_ | (with_reducible first | apply zB | apply zD | apply zC) | refine zA ?_ | fail)
 refine zM rfl (fun h => absurd h (by rw [hd]; decide)) (fun _ => ?_)
 repeat' (first | refine y1 sg ?_ | (with_reducible first | apply zB | apply zD | apply zC | apply zE | apply zL | apply zS) | refine zA ?_ | refine y24 ?_ | fail)
 clear hd hlt hk
 refine zK [(5, 5), (42, 53)] (fun y : Nat × zI => [(5, .int .i64 (y.1 : Int))]) (fun y w => St w0 (cb _ (v.cells p) 35 :: (y.2 ++ G)) w ∧ Spo N y.2 ∧ y.1 ≤ v.lins.length) (fun y => v.lins.length - y.1) (0, _) ⟨rfl, trivial⟩ ⟨H, hsp, Nat.zero_le _⟩ ?_
 clear H hsp
 rintro ⟨i, Nk⟩ gh w ⟨H, hsp, hk⟩
 simp only at H hsp hk ⊢
 by_cases hlt : i < v.lins.length
 ·have hd : decide ((i : Int) < (v.lins.length : Int)) = true := decide_eq_true (by omega)
  repeat' (first | refine y1 sg ?_ | refine y3 ?_ | refine y7 sg H ?_ | (refine y40 sg (ho) ?_ ?_ ?_; (omega); (omega)) | (refine OX.spo sg 0 H ho hlt rfl (by intro a n c h; cases h) hsp ?_ rfl rfl rfl rfl rfl rfl rfl rfl; intro N2 w hsp H) | (with_reducible first | apply zB | apply zD | apply zC | apply zE | apply zG) | refine zA ?_ | (refine y23 ?_ ?_; all_goals (intro h; try (exfalso; first | ((rw [hd] at h; cases h); done)))) | fail)
  exact zJ (i + 1, N2) rfl ⟨zT (by omega), trivial⟩ ⟨H, hsp, hlt⟩ (by simp only; omega)
 have hd : decide ((i : Int) < (v.lins.length : Int)) = false := decide_eq_false (by omega)
 repeat' (first | refine y1 sg ?_ | refine y3 ?_ | refine y7 sg H ?_ | (with_reducible first | apply zB | apply zD | apply zC | apply zL | apply zS) | refine zA ?_ | refine y24 ?_ | (refine y23 ?_ ?_; all_goals (intro h; try (exfalso; first | ((rw [hd] at h; cases h); done)))) | fail)
 exact zu (vs := []) trivial (H.sub (List.Sublist.cons _ (List.sublist_append_right _ _))) ⟨rfl, rfl⟩
end Go.Proofs.YtggolnppckpdlaaGreat
set_option linter.unusedSimpArgs false
set_option linter.unusedVariables false
namespace Go.Proofs.YtggolnppckpdlaaGreat
open Go Go.Sk Go.RowKit
attribute [local irreducible] Go.Calls
theorem zDg {x : Bool} {p : Prop} (h : x = true ↔ p) (hn : ¬ x = true) : ¬ p := fun hp => hn (h.2 hp)
set_option maxHeartbeats 2000000 in
theorem zKZ {a a' : Option Addr} {cap cap' : Nat} (l l' : List Row4) {F : zI} (w0 : World) (hF : Mem w0 F) (hs : SlA F 4 a l.length cap (rwl l)) (hs' : SlA F 4 a' l'.length cap' (rwl l')) :
  Calls Tryz.prog 70 [.slice a l.length cap, .slice a' l'.length cap'].toArray w0 (Ret (.bool (zAw l l')) w0) := by
 obtain ⟨hn, hc, b, off, cs, T, fr, hs⟩ := hs
 obtain ⟨hn', hc', b', off', cs', T', fr', hs'⟩ := hs'
 refine enter [.tmp 4] Tryz.func70 rfl Tryz.ntmps70 rfl rfl ?_
 have H := zH w0
 repeat' (first | refine y1 sg ?_ | (with_reducible first | apply zB | apply zD | apply zC) | refine zA ?_ | fail)
 refine zM rfl (fun h => ?_) (fun h => ?_)
 ·repeat' (first | refine y1 sg ?_ | (with_reducible first | apply zB | apply zD | apply zC | apply zF | apply zO) | refine zA ?_ | fail)
  exact zQ rfl H.cl (by
   have : l ≠ l' := fun he => by subst he; simp at h
   rw [zAl this])
 ·have hlen : l.length = l'.length := by simp at h; omega
  repeat' (first | refine y1 sg ?_ | (with_reducible first | apply zB | apply zD | apply zC | apply zE | apply zG) | refine zA ?_ | fail)
  refine zK [(4, 5), (11, 25)] (fun k : Nat => [(5, .int .i64 (k : Int))]) (fun k w => k ≤ l.length ∧ (∀ j, j < k → l.getD j default = l'.getD j default) ∧ St w0 [] w) (fun k => l.length - k) 0 ⟨rfl, trivial⟩ ⟨Nat.zero_le _, fun j hj => absurd hj (Nat.not_lt_zero j), H⟩ ?_
  clear H
  rintro k g w ⟨hk, hpk, H⟩
  repeat' (first | refine y1 sg ?_ | (with_reducible first | apply zB | apply zD | apply zC) | refine zA ?_ | fail)
  refine zM rfl (fun h => ?_) (fun h => ?_)
  ·have hlt : k < l.length := by simpa using h
   repeat' (first | refine y2 sg ?_ | refine y4 ?_ | (refine y41 sg (hs) ?_ ?_ ?_; (omega); (omega)) | (refine y41 sg (hs') ?_ ?_ ?_; (omega); (omega)) | (refine y43 sg (hs) ((H.memF hF)) ?_ ?_; (omega)) | (refine y43 sg (hs') ((H.memF hF)) ?_ ?_; (omega)) | (refine zo rfl rfl (zAx sg (cs := (rw_ l k).cells) (ds := (rw_ l' k).cells) zOX zOY rfl rfl rfl rfl rfl rfl rfl) ?_) | (with_reducible apply zV; intro w hcl; replace H := H.ext hcl; clear hcl) | (with_reducible first | apply zD | apply zC | apply zE | apply zG) | refine y20 mixed ?_ | fail)
   refine zM rfl (fun h2 => ?_) (fun h2 => ?_)
   ·rw [Bool.not_eq_true'] at h2
    have hne := zDg (zFg (rw_ l k) (rw_ l' k)) (by intro h3; exact absurd (h2.symm.trans h3) (by simp))
    repeat' (first | refine y1 sg ?_ | (with_reducible first | apply zB | apply zD | apply zC | apply zF | apply zO | apply zW) | refine zA ?_ | fail)
    exact zQ rfl H.cl (by
     have : l ≠ l' := fun he => by subst he; exact hne rfl
     rw [zAl this])
   ·rw [Bool.not_eq_false'] at h2
    have heq : rw_ l k = rw_ l' k := (zFg _ _).1 h2
    repeat' (first | refine y1 sg ?_ | (with_reducible first | apply zB | apply zD | apply zG) | refine zA ?_ | fail)
    refine zJ (k + 1) rfl ⟨zT (by omega), trivial⟩ ⟨hlt, fun j hj => ?_, H⟩ (by omega)
    by_cases hj' : j = k
    ·rw [hj']; exact heq
    ·exact hpk j (by omega)
  ·repeat' (first | refine y1 sg ?_ | (with_reducible first | apply zB | apply zD | apply zC | apply zF | apply zL | apply zS) | refine zA ?_ | refine y24 ?_ | fail)
   have hkn : k = l.length := by simp at h; omega
   subst hkn
   exact zQ rfl H.cl (by
    have : l = l' := zAs hlen hpk
    rw [zn.2 this])
set_option maxHeartbeats 2000000 in
theorem zKa {a a' : Option Addr} {cap cap' : Nat} (l l' : List Odr) {F : zI} (w0 : World) (hF : Mem w0 F) (hs : SlA F 6 a l.length cap (odl l)) (hs' : SlA F 6 a' l'.length cap' (odl l')) :
  Calls Tryz.prog 71 [.slice a l.length cap, .slice a' l'.length cap'].toArray w0 (Ret (.bool (zAw l l')) w0) := by
 obtain ⟨hn, hc, b, off, cs, T, fr, hs⟩ := hs
 obtain ⟨hn', hc', b', off', cs', T', fr', hs'⟩ := hs'
 refine enter [.tmp 4] Tryz.func71 rfl Tryz.ntmps71 rfl rfl ?_
 have H := zH w0
 repeat' (first | refine y1 sg ?_ | (with_reducible first | apply zB | apply zD | apply zC) | refine zA ?_ | fail)
 refine zM rfl (fun h => ?_) (fun h => ?_)
 ·repeat' (first | refine y1 sg ?_ | (with_reducible first | apply zB | apply zD | apply zC | apply zF | apply zO) | refine zA ?_ | fail)
  exact zQ rfl H.cl (by
   have : l ≠ l' := fun he => by subst he; simp at h
   rw [zAl this])
 ·have hlen : l.length = l'.length := by simp at h; omega
  repeat' (first | refine y1 sg ?_ | (with_reducible first | apply zB | apply zD | apply zC | apply zE | apply zG) | refine zA ?_ | fail)
  refine zK [(4, 5), (11, 25)] (fun k : Nat => [(5, .int .i64 (k : Int))]) (fun k w => k ≤ l.length ∧ (∀ j, j < k → l.getD j default = l'.getD j default) ∧ St w0 [] w) (fun k => l.length - k) 0 ⟨rfl, trivial⟩ ⟨Nat.zero_le _, fun j hj => absurd hj (Nat.not_lt_zero j), H⟩ ?_
  clear H
  rintro k g w ⟨hk, hpk, H⟩
  repeat' (first | refine y1 sg ?_ | (with_reducible first | apply zB | apply zD | apply zC) | refine zA ?_ | fail)
  refine zM rfl (fun h => ?_) (fun h => ?_)
  ·have hlt : k < l.length := by simpa using h
   repeat' (first | refine y2 sg ?_ | refine y4 ?_ | (refine y41 sg (hs) ?_ ?_ ?_; (omega); (omega)) | (refine y41 sg (hs') ?_ ?_ ?_; (omega); (omega)) | (refine y43 sg (hs) ((H.memF hF)) ?_ ?_; (omega)) | (refine y43 sg (hs') ((H.memF hF)) ?_ ?_; (omega)) | (refine zo rfl rfl (zAx sg (cs := (od_ l k).cells) (ds := (od_ l' k).cells) zOZ zOa rfl rfl rfl rfl rfl rfl rfl) ?_) | (with_reducible apply zV; intro w hcl; replace H := H.ext hcl; clear hcl) | (with_reducible first | apply zD | apply zC | apply zE | apply zG) | refine y20 mixed ?_ | fail)
   refine zM rfl (fun h2 => ?_) (fun h2 => ?_)
   ·rw [Bool.not_eq_true'] at h2
    have hne := zDg (zFh (od_ l k) (od_ l' k)) (by intro h3; exact absurd (h2.symm.trans h3) (by simp))
    repeat' (first | refine y1 sg ?_ | (with_reducible first | apply zB | apply zD | apply zC | apply zF | apply zO | apply zW) | refine zA ?_ | fail)
    exact zQ rfl H.cl (by
     have : l ≠ l' := fun he => by subst he; exact hne rfl
     rw [zAl this])
   ·rw [Bool.not_eq_false'] at h2
    have heq : od_ l k = od_ l' k := (zFh _ _).1 h2
    repeat' (first | refine y1 sg ?_ | (with_reducible first | apply zB | apply zD | apply zG) | refine zA ?_ | fail)
    refine zJ (k + 1) rfl ⟨zT (by omega), trivial⟩ ⟨hlt, fun j hj => ?_, H⟩ (by omega)
    by_cases hj' : j = k
    ·rw [hj']; exact heq
    ·exact hpk j (by omega)
  ·repeat' (first | refine y1 sg ?_ | (with_reducible first | apply zB | apply zD | apply zC | apply zF | apply zL | apply zS) | refine zA ?_ | refine y24 ?_ | fail)
   have hkn : k = l.length := by simp at h; omega
   subst hkn
   exact zQ rfl H.cl (by
    have : l = l' := zAs hlen hpk
    rw [zn.2 this])
set_option maxHeartbeats 2000000 in
theorem zKb {a a' : Option Addr} {cap cap' : Nat} (l l' : List Opn) {F : zI} (w0 : World) (hF : Mem w0 F) (hs : SlA F 6 a l.length cap (opl l)) (hs' : SlA F 6 a' l'.length cap' (opl l')) :
  Calls Tryz.prog 73 [.slice a l.length cap, .slice a' l'.length cap'].toArray w0 (Ret (.bool (zAw l l')) w0) := by
 obtain ⟨hn, hc, b, off, cs, T, fr, hs⟩ := hs
 obtain ⟨hn', hc', b', off', cs', T', fr', hs'⟩ := hs'
 refine enter [.tmp 4] Tryz.func73 rfl Tryz.ntmps73 rfl rfl ?_
 have H := zH w0
 repeat' (first | refine y1 sg ?_ | (with_reducible first | apply zB | apply zD | apply zC) | refine zA ?_ | fail)
 refine zM rfl (fun h => ?_) (fun h => ?_)
 ·repeat' (first | refine y1 sg ?_ | (with_reducible first | apply zB | apply zD | apply zC | apply zF | apply zO) | refine zA ?_ | fail)
  exact zQ rfl H.cl (by
   have : l ≠ l' := fun he => by subst he; simp at h
   rw [zAl this])
 ·have hlen : l.length = l'.length := by simp at h; omega
  repeat' (first | refine y1 sg ?_ | (with_reducible first | apply zB | apply zD | apply zC | apply zE | apply zG) | refine zA ?_ | fail)
  refine zK [(4, 5), (11, 25)] (fun k : Nat => [(5, .int .i64 (k : Int))]) (fun k w => k ≤ l.length ∧ (∀ j, j < k → l.getD j default = l'.getD j default) ∧ St w0 [] w) (fun k => l.length - k) 0 ⟨rfl, trivial⟩ ⟨Nat.zero_le _, fun j hj => absurd hj (Nat.not_lt_zero j), H⟩ ?_
  clear H
  rintro k g w ⟨hk, hpk, H⟩
  repeat' (first | refine y1 sg ?_ | (with_reducible first | apply zB | apply zD | apply zC) | refine zA ?_ | fail)
  refine zM rfl (fun h => ?_) (fun h => ?_)
  ·have hlt : k < l.length := by simpa using h
   repeat' (first | refine y2 sg ?_ | refine y4 ?_ | (refine y41 sg (hs) ?_ ?_ ?_; (omega); (omega)) | (refine y41 sg (hs') ?_ ?_ ?_; (omega); (omega)) | (refine y43 sg (hs) ((H.memF hF)) ?_ ?_; (omega)) | (refine y43 sg (hs') ((H.memF hF)) ?_ ?_; (omega)) | (refine zo rfl rfl (zAx sg (cs := (op_ l k).cells) (ds := (op_ l' k).cells) zOb zOc rfl rfl rfl rfl rfl rfl rfl) ?_) | (with_reducible apply zV; intro w hcl; replace H := H.ext hcl; clear hcl) | (with_reducible first | apply zD | apply zC | apply zE | apply zG) | refine y20 mixed ?_ | fail)
   refine zM rfl (fun h2 => ?_) (fun h2 => ?_)
   ·rw [Bool.not_eq_true'] at h2
    have hne := zDg (zFi (op_ l k) (op_ l' k)) (by intro h3; exact absurd (h2.symm.trans h3) (by simp))
    repeat' (first | refine y1 sg ?_ | (with_reducible first | apply zB | apply zD | apply zC | apply zF | apply zO | apply zW) | refine zA ?_ | fail)
    exact zQ rfl H.cl (by
     have : l ≠ l' := fun he => by subst he; exact hne rfl
     rw [zAl this])
   ·rw [Bool.not_eq_false'] at h2
    have heq : op_ l k = op_ l' k := (zFi _ _).1 h2
    repeat' (first | refine y1 sg ?_ | (with_reducible first | apply zB | apply zD | apply zG) | refine zA ?_ | fail)
    refine zJ (k + 1) rfl ⟨zT (by omega), trivial⟩ ⟨hlt, fun j hj => ?_, H⟩ (by omega)
    by_cases hj' : j = k
    ·rw [hj']; exact heq
    ·exact hpk j (by omega)
  ·repeat' (first | refine y1 sg ?_ | (with_reducible first | apply zB | apply zD | apply zC | apply zF | apply zL | apply zS) | refine zA ?_ | refine y24 ?_ | fail)
   have hkn : k = l.length := by simp at h; omega
   subst hkn
   exact zQ rfl H.cl (by
    have : l = l' := zAs hlen hpk
    rw [zn.2 this])
set_option maxHeartbeats 2000000 in
theorem zKc {a a' : Option Addr} {cap cap' : Nat} (l l' : List Lt) {F : zI} (w0 : World) (hF : Mem w0 F) (hs : SlA F 4 a l.length cap (ltl l)) (hs' : SlA F 4 a' l'.length cap' (ltl l')) :
  Calls Tryz.prog 74 [.slice a l.length cap, .slice a' l'.length cap'].toArray w0 (Ret (.bool (zAw l l')) w0) := by
 obtain ⟨hn, hc, b, off, cs, T, fr, hs⟩ := hs
 obtain ⟨hn', hc', b', off', cs', T', fr', hs'⟩ := hs'
 refine enter [.tmp 4] Tryz.func74 rfl Tryz.ntmps74 rfl rfl ?_
 have H := zH w0
 repeat' (first | refine y1 sg ?_ | (with_reducible first | apply zB | apply zD | apply zC) | refine zA ?_ | fail)
 refine zM rfl (fun h => ?_) (fun h => ?_)
 ·repeat' (first | refine y1 sg ?_ | (with_reducible first | apply zB | apply zD | apply zC | apply zF | apply zO) | refine zA ?_ | fail)
  exact zQ rfl H.cl (by
   have : l ≠ l' := fun he => by subst he; simp at h
   rw [zAl this])
 ·have hlen : l.length = l'.length := by simp at h; omega
  repeat' (first | refine y1 sg ?_ | (with_reducible first | apply zB | apply zD | apply zC | apply zE | apply zG) | refine zA ?_ | fail)
  refine zK [(4, 5), (11, 25)] (fun k : Nat => [(5, .int .i64 (k : Int))]) (fun k w => k ≤ l.length ∧ (∀ j, j < k → l.getD j default = l'.getD j default) ∧ St w0 [] w) (fun k => l.length - k) 0 ⟨rfl, trivial⟩ ⟨Nat.zero_le _, fun j hj => absurd hj (Nat.not_lt_zero j), H⟩ ?_
  clear H
  rintro k g w ⟨hk, hpk, H⟩
  repeat' (first | refine y1 sg ?_ | (with_reducible first | apply zB | apply zD | apply zC) | refine zA ?_ | fail)
  refine zM rfl (fun h => ?_) (fun h => ?_)
  ·have hlt : k < l.length := by simpa using h
   repeat' (first | refine y2 sg ?_ | refine y4 ?_ | (refine y41 sg (hs) ?_ ?_ ?_; (omega); (omega)) | (refine y41 sg (hs') ?_ ?_ ?_; (omega); (omega)) | (refine y43 sg (hs) ((H.memF hF)) ?_ ?_; (omega)) | (refine y43 sg (hs') ((H.memF hF)) ?_ ?_; (omega)) | (refine zo rfl rfl (zAx sg (cs := (lt_ l k).cells) (ds := (lt_ l' k).cells) zOd zOe rfl rfl rfl rfl rfl rfl rfl) ?_) | (with_reducible apply zV; intro w hcl; replace H := H.ext hcl; clear hcl) | (with_reducible first | apply zD | apply zC | apply zE | apply zG) | refine y20 mixed ?_ | fail)
   refine zM rfl (fun h2 => ?_) (fun h2 => ?_)
   ·rw [Bool.not_eq_true'] at h2
    have hne := zDg (zFj (lt_ l k) (lt_ l' k)) (by intro h3; exact absurd (h2.symm.trans h3) (by simp))
    repeat' (first | refine y1 sg ?_ | (with_reducible first | apply zB | apply zD | apply zC | apply zF | apply zO | apply zW) | refine zA ?_ | fail)
    exact zQ rfl H.cl (by
     have : l ≠ l' := fun he => by subst he; exact hne rfl
     rw [zAl this])
   ·rw [Bool.not_eq_false'] at h2
    have heq : lt_ l k = lt_ l' k := (zFj _ _).1 h2
    repeat' (first | refine y1 sg ?_ | (with_reducible first | apply zB | apply zD | apply zG) | refine zA ?_ | fail)
    refine zJ (k + 1) rfl ⟨zT (by omega), trivial⟩ ⟨hlt, fun j hj => ?_, H⟩ (by omega)
    by_cases hj' : j = k
    ·rw [hj']; exact heq
    ·exact hpk j (by omega)
  ·repeat' (first | refine y1 sg ?_ | (with_reducible first | apply zB | apply zD | apply zC | apply zF | apply zL | apply zS) | refine zA ?_ | refine y24 ?_ | fail)
   have hkn : k = l.length := by simp at h; omega
   subst hkn
   exact zQ rfl H.cl (by
    have : l = l' := zAs hlen hpk
    rw [zn.2 this])
set_option maxHeartbeats 2000000 in
theorem zKd {a a' : Option Addr} {cap cap' : Nat} (l l' : List Psn) {F : zI} (w0 : World) (hF : Mem w0 F) (hs : SlA F 6 a l.length cap (psl l)) (hs' : SlA F 6 a' l'.length cap' (psl l')) :
  Calls Tryz.prog 75 [.slice a l.length cap, .slice a' l'.length cap'].toArray w0 (Ret (.bool (zAw l l')) w0) := by
 obtain ⟨hn, hc, b, off, cs, T, fr, hs⟩ := hs
 obtain ⟨hn', hc', b', off', cs', T', fr', hs'⟩ := hs'
 refine enter [.tmp 4] Tryz.func75 rfl Tryz.ntmps75 rfl rfl ?_
 have H := zH w0
 repeat' (first | refine y1 sg ?_ | (with_reducible first | apply zB | apply zD | apply zC) | refine zA ?_ | fail)
 refine zM rfl (fun h => ?_) (fun h => ?_)
 ·repeat' (first | refine y1 sg ?_ | (with_reducible first | apply zB | apply zD | apply zC | apply zF | apply zO) | refine zA ?_ | fail)
  exact zQ rfl H.cl (by
   have : l ≠ l' := fun he => by subst he; simp at h
   rw [zAl this])
 ·have hlen : l.length = l'.length := by simp at h; omega
  repeat' (first | refine y1 sg ?_ | (with_reducible first | apply zB | apply zD | apply zC | apply zE | apply zG) | refine zA ?_ | fail)
  refine zK [(4, 5), (11, 25)] (fun k : Nat => [(5, .int .i64 (k : Int))]) (fun k w => k ≤ l.length ∧ (∀ j, j < k → l.getD j default = l'.getD j default) ∧ St w0 [] w) (fun k => l.length - k) 0 ⟨rfl, trivial⟩ ⟨Nat.zero_le _, fun j hj => absurd hj (Nat.not_lt_zero j), H⟩ ?_
  clear H
  rintro k g w ⟨hk, hpk, H⟩
  repeat' (first | refine y1 sg ?_ | (with_reducible first | apply zB | apply zD | apply zC) | refine zA ?_ | fail)
  refine zM rfl (fun h => ?_) (fun h => ?_)
  ·have hlt : k < l.length := by simpa using h
   repeat' (first | refine y2 sg ?_ | refine y4 ?_ | (refine y41 sg (hs) ?_ ?_ ?_; (omega); (omega)) | (refine y41 sg (hs') ?_ ?_ ?_; (omega); (omega)) | (refine y43 sg (hs) ((H.memF hF)) ?_ ?_; (omega)) | (refine y43 sg (hs') ((H.memF hF)) ?_ ?_; (omega)) | (refine zo rfl rfl (zAx sg (cs := (ps_ l k).cells) (ds := (ps_ l' k).cells) zOf zOg rfl rfl rfl rfl rfl rfl rfl) ?_) | (with_reducible apply zV; intro w hcl; replace H := H.ext hcl; clear hcl) | (with_reducible first | apply zD | apply zC | apply zE | apply zG) | refine y20 mixed ?_ | fail)
   refine zM rfl (fun h2 => ?_) (fun h2 => ?_)
   ·rw [Bool.not_eq_true'] at h2
    have hne := zDg (zFk (ps_ l k) (ps_ l' k)) (by intro h3; exact absurd (h2.symm.trans h3) (by simp))
    repeat' (first | refine y1 sg ?_ | (with_reducible first | apply zB | apply zD | apply zC | apply zF | apply zO | apply zW) | refine zA ?_ | fail)
    exact zQ rfl H.cl (by
     have : l ≠ l' := fun he => by subst he; exact hne rfl
     rw [zAl this])
   ·rw [Bool.not_eq_false'] at h2
    have heq : ps_ l k = ps_ l' k := (zFk _ _).1 h2
    repeat' (first | refine y1 sg ?_ | (with_reducible first | apply zB | apply zD | apply zG) | refine zA ?_ | fail)
    refine zJ (k + 1) rfl ⟨zT (by omega), trivial⟩ ⟨hlt, fun j hj => ?_, H⟩ (by omega)
    by_cases hj' : j = k
    ·rw [hj']; exact heq
    ·exact hpk j (by omega)
  ·repeat' (first | refine y1 sg ?_ | (with_reducible first | apply zB | apply zD | apply zC | apply zF | apply zL | apply zS) | refine zA ?_ | refine y24 ?_ | fail)
   have hkn : k = l.length := by simp at h; omega
   subst hkn
   exact zQ rfl H.cl (by
    have : l = l' := zAs hlen hpk
    rw [zn.2 this])
set_option maxHeartbeats 2000000 in
theorem zKe {a a' : Option Addr} {cap cap' : Nat} (l l' : List Ln) {F : zI} (w0 : World) (hF : Mem w0 F) (hs : SlA F 5 a l.length cap (lnl l)) (hs' : SlA F 5 a' l'.length cap' (lnl l')) :
  Calls Tryz.prog 76 [.slice a l.length cap, .slice a' l'.length cap'].toArray w0 (Ret (.bool (zAw l l')) w0) := by
 obtain ⟨hn, hc, b, off, cs, T, fr, hs⟩ := hs
 obtain ⟨hn', hc', b', off', cs', T', fr', hs'⟩ := hs'
 refine enter [.tmp 4] Tryz.func76 rfl Tryz.ntmps76 rfl rfl ?_
 have H := zH w0
 repeat' (first | refine y1 sg ?_ | (with_reducible first | apply zB | apply zD | apply zC) | refine zA ?_ | fail)
 refine zM rfl (fun h => ?_) (fun h => ?_)
 ·repeat' (first | refine y1 sg ?_ | (with_reducible first | apply zB | apply zD | apply zC | apply zF | apply zO) | refine zA ?_ | fail)
  exact zQ rfl H.cl (by
   have : l ≠ l' := fun he => by subst he; simp at h
   rw [zAl this])
 ·have hlen : l.length = l'.length := by simp at h; omega
  repeat' (first | refine y1 sg ?_ | (with_reducible first | apply zB | apply zD | apply zC | apply zE | apply zG) | refine zA ?_ | fail)
  refine zK [(4, 5), (11, 25)] (fun k : Nat => [(5, .int .i64 (k : Int))]) (fun k w => k ≤ l.length ∧ (∀ j, j < k → l.getD j default = l'.getD j default) ∧ St w0 [] w) (fun k => l.length - k) 0 ⟨rfl, trivial⟩ ⟨Nat.zero_le _, fun j hj => absurd hj (Nat.not_lt_zero j), H⟩ ?_
  clear H
  rintro k g w ⟨hk, hpk, H⟩
  repeat' (first | refine y1 sg ?_ | (with_reducible first | apply zB | apply zD | apply zC) | refine zA ?_ | fail)
  refine zM rfl (fun h => ?_) (fun h => ?_)
  ·have hlt : k < l.length := by simpa using h
   repeat' (first | refine y2 sg ?_ | refine y4 ?_ | (refine y41 sg (hs) ?_ ?_ ?_; (omega); (omega)) | (refine y41 sg (hs') ?_ ?_ ?_; (omega); (omega)) | (refine y43 sg (hs) ((H.memF hF)) ?_ ?_; (omega)) | (refine y43 sg (hs') ((H.memF hF)) ?_ ?_; (omega)) | (refine zo rfl rfl (zAx sg (cs := (ln_ l k).cells) (ds := (ln_ l' k).cells) zOh zOi rfl rfl rfl rfl rfl rfl rfl) ?_) | (with_reducible apply zV; intro w hcl; replace H := H.ext hcl; clear hcl) | (with_reducible first | apply zD | apply zC | apply zE | apply zG) | refine y20 mixed ?_ | fail)
   refine zM rfl (fun h2 => ?_) (fun h2 => ?_)
   ·rw [Bool.not_eq_true'] at h2
    have hne := zDg (zFl (ln_ l k) (ln_ l' k)) (by intro h3; exact absurd (h2.symm.trans h3) (by simp))
    repeat' (first | refine y1 sg ?_ | (with_reducible first | apply zB | apply zD | apply zC | apply zF | apply zO | apply zW) | refine zA ?_ | fail)
    exact zQ rfl H.cl (by
     have : l ≠ l' := fun he => by subst he; exact hne rfl
     rw [zAl this])
   ·rw [Bool.not_eq_false'] at h2
    have heq : ln_ l k = ln_ l' k := (zFl _ _).1 h2
    repeat' (first | refine y1 sg ?_ | (with_reducible first | apply zB | apply zD | apply zG) | refine zA ?_ | fail)
    refine zJ (k + 1) rfl ⟨zT (by omega), trivial⟩ ⟨hlt, fun j hj => ?_, H⟩ (by omega)
    by_cases hj' : j = k
    ·rw [hj']; exact heq
    ·exact hpk j (by omega)
  ·repeat' (first | refine y1 sg ?_ | (with_reducible first | apply zB | apply zD | apply zC | apply zF | apply zL | apply zS) | refine zA ?_ | refine y24 ?_ | fail)
   have hkn : k = l.length := by simp at h; omega
   subst hkn
   exact zQ rfl H.cl (by
    have : l = l' := zAs hlen hpk
    rw [zn.2 this])
end Go.Proofs.YtggolnppckpdlaaGreat
