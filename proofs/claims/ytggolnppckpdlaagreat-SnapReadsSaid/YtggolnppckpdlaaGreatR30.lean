/- Texts of ours, joined: the steps of the proof, or the claim's theorem. -/
import Derived.Test.YtggolnppckpdlaaGreatR16
import Derived.Test.YtggolnppckpdlaaGreatR29
set_option linter.unusedSimpArgs false
set_option linter.unusedVariables false
namespace Go.Proofs.YtggolnppckpdlaaGreat
open Go Go.Sk Go.RowKit
attribute [local irreducible] Go.Calls
theorem zIq {x y : Auc} (h : x = y → False) : Value.bool false = Value.bool (zDV x y) := by
 cases hs : zDV x y with
 | false => rfl
 | true =>
   simp only [zDV, Bool.and_eq_true, beq_iff_eq, decide_eq_true_eq] at hs
   obtain ⟨⟨⟨⟨⟨⟨⟨⟨h1, h2⟩, h3⟩, h4⟩, h5⟩, h6⟩, h7⟩, h8⟩, h9⟩ := hs
   cases x; cases y
   simp only at h1 h2 h3 h4 h5 h6 h7 h8 h9
   subst h1; subst h2; subst h3; subst h4; subst h5; subst h6; subst h7; subst h8; subst h9
   exact (h rfl).elim
theorem zJz (x : Auc) : zDV x x = true := by simp [zDV]
theorem zQN {l l' : List Bid} (hl : l.length = l'.length) (h : ∀ j, j < l.length → l.getD j default = l'.getD j default) : l = l' := by
 apply List.ext_getElem hl
 intro i h1 h2
 have := h i h1
 simpa [List.getD, h1, h2] using this
set_option maxRecDepth 20000 in
set_option maxHeartbeats 4000000 in
theorem zQO {a a' : Option Addr} {cap cap' : Nat} (x y : Auc) {F : zI} (w0 : World) (hF : Mem w0 F) (hs0 : Bids F a cap x.bids) (hs0' : Bids F a' cap' y.bids) :
  Calls Tryz.prog 72 [.agg (x.cells a cap).toArray, .agg (y.cells a' cap').toArray].toArray w0 (Ret (.bool (zDV x y)) w0) := by
 obtain ⟨hn, hc, b0, off, cs, T, fr, hs⟩ := id hs0
 obtain ⟨hn', hc', b0', off', cs', T', fr', hs'⟩ := id hs0'
 refine enter [.tmp 4] Tryz.func72 rfl Tryz.ntmps72 rfl rfl ?_
 have H := zH w0
 repeat' (first | refine y1 sg ?_ | refine y3 ?_ | refine y5 sg ?_ | refine y7 sg H ?_ | (refine y9 H ?_; intro b w H) | refine y13 ?_ | refine y14 ?_ | (refine y17 ?_ ?_; all_goals intro h) | (with_reducible first | apply zB | apply zD | apply zC | apply zE | apply zF | apply zG | apply zO) | refine zA ?_ | refine y21 ?_ | (refine y23 ?_ ?_; all_goals intro h) | fail)
 all_goals try exact zQ rfl H.cl (zIq fun e => by clear H; subst e; simp_all; done)
 refine zK [(4, 5), (69, 86)] (fun k : Nat => [(5, .int .i64 (k : Int))])
  (fun k w => k ≤ x.bids.length ∧ (∀ j, j < k → x.bids.getD j default = y.bids.getD j default) ∧ St w0 [cb _ (y.cells a' cap') 81, cb _ (x.cells a cap) 81] w) (fun k => x.bids.length - k) 0
  ⟨rfl, trivial⟩ ⟨Nat.zero_le _, fun j hj => absurd hj (Nat.not_lt_zero _), H⟩ ?_
 have hl : x.bids.length = y.bids.length := by have := h; simp at this; omega
 have hxy : x.bids = y.bids → x = y := by
  clear H
  intro e
  cases x; cases y
  simp only at e
  subst e
  simp_all
 clear H
 rintro k g w ⟨hk, hk1, H⟩
 repeat' (first | refine y1 sg ?_ | refine y3 ?_ | refine y7 sg H ?_ | (with_reducible first | apply zB | apply zD | apply zC) | refine zA ?_ | fail)
 refine zM rfl (fun h2 => ?_) (fun h2 => ?_)
 ·have hlt : k < x.bids.length := by simpa using h2
  repeat' (first | refine y1 sg ?_ | refine y2 sg ?_ | refine y4 ?_ | refine y8 sg H ?_ | (refine y41 sg (hs) ?_ ?_ ?_; (omega); (omega)) | (refine y41 sg (hs') ?_ ?_ ?_; (omega); (omega)) | (refine y43 sg (hs) ((H.memF hF)) ?_ ?_; (omega)) | (refine y43 sg (hs') ((H.memF hF)) ?_ ?_; (omega)) | ((with_reducible apply zo); exact rfl; exact rfl; exact Yq.neqBid (x.bids.getD k default) (y.bids.getD k default) rfl rfl rfl) | (with_reducible first | apply zB | apply zD | apply zC | apply zE | apply zF | apply zG | apply zO | apply zW) | (with_reducible apply zV; intro w hcl; replace H := H.ext hcl; clear hcl) | refine zA ?_ | refine y20 mixed ?_ | (refine y23 ?_ ?_; all_goals intro h) | fail)
  ·exact zQ rfl H.cl (zIq fun e => by subst e; simp at h)
  ·have he : x.bids.getD k default = y.bids.getD k default := by simpa using h
   refine zJ (k + 1) rfl ⟨zT (by omega), trivial⟩ ⟨hlt, fun j hj => ?_, H⟩ (by omega)
   by_cases hjk : j = k
   ·subst hjk; exact he
   ·exact hk1 j (by omega)
 ·have hkn : k = x.bids.length := by simp at h2; omega
  subst hkn
  repeat' (first | refine y1 sg ?_ | (with_reducible first | apply zB | apply zD | apply zC | apply zF | apply zL | apply zS) | refine zA ?_ | refine y24 ?_ | fail)
  exact zQ rfl H.cl (by rw [hxy (zQN hl hk1), zJz])
end Go.Proofs.YtggolnppckpdlaaGreat
set_option linter.unusedSimpArgs false
set_option linter.unusedVariables false
namespace Go.Proofs.YtggolnppckpdlaaGreat
open Go Go.Sk Go.RowKit
attribute [local irreducible] Go.Calls
theorem zHD (x : Auc) (a : Option Addr) (cap : Nat) : ∀ u ∈ x.cells a cap, u.oneCell' = true := by
 intro u hu
 simp only [Auc.cells, List.mem_cons, List.not_mem_nil, or_false] at hu
 rcases hu with rfl | rfl | rfl | rfl | rfl | rfl | rfl | rfl | rfl <;> rfl
structure Ow where
 k : Nat
 a : Option Addr
 cap : Nat
 ad : Nat → Option Addr × Nat
 mo : zI
 mb : zI
theorem zIr {l : List Auc} : zA7 l 0 = !zBX (l.getD 0 default) := by
 unfold zA7
 cases hm : zBX (l.getD 0 default) with
 | false => simp
 | true =>
   have := zMM (zCL hm).1
   simp only [zJg, Bool.not_true, Bool.or_false]
   exact decide_eq_false (by omega)
set_option maxHeartbeats 2000000 in
theorem zMO {a : Option Addr} {cap : Nat} (l : List Auc) (ad : Nat → Option Addr × Nat) {F : zI} (w0 : World) (hF : Mem w0 F) (hs0 : Aucs F a cap l ad) :
  Calls Tryz.prog 198 [.slice a l.length cap].toArray w0 (Ret (.bool (zAf l)) w0) := by
 obtain ⟨⟨hnc, hc, b0, off, cs, T, fr, hs⟩, hbs⟩ := hs0
 refine enter [.tmp 2] Tryz.func198 rfl Tryz.ntmps198 rfl rfl ?_
 have H := zH w0
 repeat' (first | refine y1 sg ?_ | (with_reducible first | apply zB | apply zD | apply zC | apply zE) | refine zA ?_ | fail)
 refine zK [(2, 33)] (fun k : Nat => [(3, .int .i64 (k : Int))]) (fun k w => k ≤ l.length ∧ (∀ j, j < k → zA7 l j = false) ∧ St w0 [] w) (fun k => l.length - k) 0 ⟨rfl, trivial⟩ ⟨Nat.zero_le _, fun j hj => absurd hj (Nat.not_lt_zero _), H⟩ ?_
 clear H
 rintro k g w ⟨hk, hk1, H⟩
 repeat' (first | refine y1 sg ?_ | (with_reducible first | apply zB | apply zD | apply zC) | refine zA ?_ | fail)
 refine zM rfl (fun h => ?_) (fun h => ?_)
 ·have hlt : k < l.length := by have := of_decide_eq_true h; omega
  have hno : zA7 l k = true → Value.bool false = Value.bool (zAf l) := fun hb => by rw [zAf, zA5 hlt hk1 hb, decide_eq_false (show ¬ ((k : Int) < 0) by omega), Bool.false_and]
  have hyes : zA7 l k = false → ∀ j, j < k + 1 → zA7 l j = false := fun hb j hj => by
   by_cases hjk : j = k
   ·rw [hjk]; exact hb
   ·exact hk1 j (by omega)
  cases k with
  | zero =>
    have e := zIr (l := l)
    repeat' (first | refine y1 sg ?_ | refine y2 sg ?_ | refine y4 ?_ | refine y6 sg ?_ | (refine y41 sg (hs) ?_ ?_ ?_; (omega); (omega)) | (refine y43 sg (hs) ((H.memF hF)) ?_ ?_; (omega)) | (refine' y31 zHU ?_ ?_; rotate_left; exact (fun _ hcl => zJy (l.getD 0 default) _ ((H.ext hcl).memF hF) (hbs 0 hlt))) | refine y15 ?_ | refine y16 ?_ | (refine y18 ?_ ?_; all_goals (intro h; try (exfalso; first | (simp at h; done)))) | (with_reducible first | apply zB | apply zD | apply zC | apply zE | apply zF | apply zG | apply zO | apply zW) | (with_reducible apply zV; intro w hcl; replace H := H.ext hcl; clear hcl) | refine zA ?_ | refine y20 mixed ?_ | refine y21 ?_ | refine y22 ?_ | fail)
    ·exact zQ rfl H.cl (hno (by rw [e]; exact h))
    all_goals exact zJ 1 rfl ⟨rfl, trivial⟩ ⟨hlt, hyes (by rw [e]; assumption), H.sub (List.nil_sublist _)⟩ (by omega)
  | succ k =>
    have e : zA7 l (k + 1) = (decide ((l.getD (k + 1) default).id ≤ (l.getD k default).id) || !zBX (l.getD (k + 1) default)) := rfl
    repeat' (first | refine y1 sg ?_ | refine y2 sg ?_ | refine y4 ?_ | refine y6 sg ?_ | (refine y41 sg (hs) ?_ ?_ ?_; (first | omega | (rw [w64 (by omega) (by omega)]; omega)); (first | omega | (rw [w64 (by omega) (by omega)]; omega))) | (refine y43 sg (hs) ((H.memF hF)) ?_ ?_; (omega)) | (refine y45 sg (hs) ((H.memF hF)) ?_ ?_; (omega)) | (refine' y31 zHU ?_ ?_; rotate_left; exact (fun _ hcl => zJy (l.getD (k + 1) default) _ ((H.ext hcl).memF hF) (hbs (k + 1) hlt))) | refine y15 ?_ | refine y16 ?_ | (refine y18 ?_ ?_; all_goals intro h) | (with_reducible first | apply zB | apply zD | apply zC | apply zE | apply zF | apply zG | apply zO | apply zW) | (with_reducible apply zV; intro w hcl; replace H := H.ext hcl; clear hcl) | refine zA ?_ | refine y20 mixed ?_ | refine y21 ?_ | refine y22 ?_ | (refine y23 ?_ ?_; all_goals intro h) | fail)
    rotate_left 3
    ·have := of_decide_eq_false h; omega
    ·exact zQ rfl H.cl (hno (by rw [e, h, Bool.or_true]))
    ·exact zQ rfl H.cl (hno (by rw [e]; rw [Nat.add_sub_cancel] at h; rw [h, Bool.true_or]))
    ·have h1 := ‹(!zBX (l.getD (k + 1) default)) = false›
     exact zJ (k + 2) rfl ⟨zT (by omega), trivial⟩ ⟨hlt, hyes (by rw [e]; rw [Nat.add_sub_cancel] at h; rw [h, h1, Bool.or_false]), H.sub (List.nil_sublist _)⟩ (by omega)
 ·have hkn : k = l.length := by have := of_decide_eq_false h; omega
  subst hkn
  repeat' (first | refine y1 sg ?_ | (with_reducible first | apply zB | apply zD | apply zC | apply zF | apply zL | apply zS) | refine zA ?_ | refine y24 ?_ | fail)
  exact zQ rfl H.cl (by rw [zAf, zAm hk1]; simp)
end Go.Proofs.YtggolnppckpdlaaGreat
set_option linter.unusedSimpArgs false
set_option linter.unusedVariables false
namespace Go.Proofs.YtggolnppckpdlaaGreat
open Go Go.Sk Go.RowKit
attribute [local irreducible] Go.Calls
theorem aelS {xs : List Auc} {x : Auc} {ad : Nat → Option Addr × Nat} {a : Option Addr} {cap : Nat} :
  (List.range (xs ++ [x]).length).flatMap (ael (xs ++ [x]) (fun j => if j = xs.length then (a, cap) else ad j)) = (List.range xs.length).flatMap (ael xs ad) ++ x.cells a cap := by
 rw [List.length_append, List.length_singleton, List.range_succ, List.flatMap_append, List.flatMap_singleton]
 congr 1
 ·rw [List.flatMap_def, List.flatMap_def]
  congr 1
  refine List.map_congr_left fun j hj => ?_
  have := List.mem_range.1 hj
  simp only [ael]
  rw [if_neg (by omega), zBd xs this]
 ·simp only [ael, if_true]
  rw [zBe]
structure La where
 xs : List Auc
 a : Option Addr
 cap : Nat
 ad : Nat → Option Addr × Nat
 mo : zI
 mb : zI
 pk : Rs
def LRA (br pr : Nat) (s : ByteArray) (G : zI) (p : Rs) : zI → Value → Prop := fun N v => ∃ (xs : List Auc) (p' : Rs) (a : Option Addr) (cap : Nat) (ad : Nat → Option Addr × Nat) (M : zI), v = .slice a xs.length cap ∧ N = rd pr s p' :: sr br pr s p'.bad :: (M ++ G) ∧ Aucs M a cap xs ad ∧ Step (zN s) (zy zGh) p p' xs ∧ Fz M
theorem zHr {x : Auc} {l : List Nat} (h : zGh x l) : l ≠ [] := by
 obtain ⟨_, l2, _, ⟨l3, _, rfl⟩, rfl⟩ := h
 intro h
 exact zAj _ (List.append_eq_nil_iff.1 (List.append_eq_nil_iff.1 h).2).1
theorem permB {x y z u : Nat × Obj} (M R G : zI) : (x :: y :: z :: u :: (R ++ (M ++ G))).Perm (M ++ (x :: y :: z :: u :: (R ++ G))) := by
 have h1 : (R ++ (M ++ G)).Perm (M ++ (R ++ G)) := List.perm_append_comm_assoc R M G
 exact ((((h1.cons u).cons z).cons y).cons x).trans (zAo M _)
set_option maxHeartbeats 2000000 in
theorem zMP {w0 w : World} {G : zI} {br pr : Nat} {s : ByteArray} {p : Rs} {g : FuncId} {caps : List Value} (hg : Ent Tryz.prog g) (hgt : GtA w0 G br pr s g caps)
  (hp : p.pos ≤ s.size) (hs : s.size ≤ 16777216) (H : St w0 (rd pr s p :: sr br pr s p.bad :: G) w) :
  Calls Tryz.prog 133 [ptr br, .func (.func g) #[] caps.toArray].toArray w (zf (LRA br pr s G p) w0) := by
 have hlen := zP s
 refine enter [.tmp 4] Tryz.func133 rfl Tryz.ntmps133 rfl rfl ?_
 repeat' (first | refine y1 sg ?_ | refine y3 ?_ | refine y7 sg H ?_ | (refine' y33 zAk ?_ ?_; rotate_left 2; exact zAR s.size (by omega) hp (by omega) H; rintro v N w ⟨x, p1, rfl, rfl, ⟨hx0, hx1⟩, hS1⟩ H) | (with_reducible first | apply zB | apply zD | apply zC | apply zE) | refine zA ?_ | fail)
 obtain ⟨n, rfl⟩ : ∃ n : Nat, x = (n : Int) := ⟨x.toNat, by omega⟩
 refine zK [(4, 8), (15, 33)] (fun y : La => [(5, .slice y.a y.xs.length y.cap), (15, .int .i64 (y.xs.length : Int))]) (fun y w => St w0 (rd pr s y.pk :: sr br pr s y.pk.bad :: (y.mo ++ (y.mb ++ G))) w ∧ Go.Sk.Own y.mo 81 9 y.a y.xs.length y.cap ((List.range y.xs.length).flatMap (ael y.xs y.ad)) ∧ (∀ j, j < y.xs.length → Bids y.mb (y.ad j).1 (y.ad j).2 (y.xs.getD j default).bids) ∧ Fz y.mb ∧ y.xs.length ≤ n ∧ ListAt (zN s) zGh p1 y.pk n y.xs) (fun y => n - y.xs.length) ⟨[], none, 0, fun _ => (none, 0), [], [], p1⟩ ⟨rfl, rfl, trivial⟩ ⟨H, zAG _ _ _, fun j hj => absurd hj (Nat.not_lt_zero _), Fz.nil, Nat.zero_le _, zd hS1.inv⟩ ?_
 clear H
 rintro ⟨xs, a, cap, ad, M, mb, pk⟩ gh w ⟨H, hO, hB, hfz, hk, hL⟩
 simp only at H hO hB hfz hk hL ⊢
 by_cases hkn : xs.length < n
 ·have hd : decide ((xs.length : Int) < (n : Int)) = true := decide_eq_true (by omega)
  have hpk := hL.inv
  repeat' (first | refine y1 sg ?_ | refine y3 ?_ | refine y7 sg H ?_ | (refine y10 sg H ?_; intro b w H) | (refine y11 sg H ?_; intro w H) | (refine zAL rfl rfl (zAH hg rfl rfl rfl) (hgt (M ++ (mb ++ G)) pk _ (fun _ h => List.mem_append_right _ (List.mem_append_right _ h)) (by omega) H) ?_; rintro v N w ⟨x, a1, cap1, R, p', rfl, rfl, hR, hS, hrz⟩ H) | (refine' y30 zDM ?_ ?_; rotate_left; exact zB9 H.mem (by repeat (first | exact List.Mem.head _ | exact List.mem_append_right _ (List.Mem.head _) | refine List.Mem.tail _ ?_)); intro w hcl; replace H := H.ext hcl; clear hcl) | ((with_reducible apply OX.buildA sg H); exact rfl; exact rfl; exact rfl; exact rfl; exact rfl; exact rfl; exact rfl; exact rfl; exact rfl; exact rfl; exact rfl; exact rfl; intro b w H _) | (have hp := H.perm (permB M R (mb ++ G)); refine zi sg 9 200 (M := M) hp rfl rfl rfl rfl rfl rfl rfl rfl rfl rfl rfl hO (zk hp.mem (List.mem_append_right _ (List.Mem.head _))) rfl (zHD _ _ _) (by unfold maxLen; omega) (by omega) ?_; clear hp hO; intro a cap M w hO H; replace H := ((H.perm (zAo M (R ++ (mb ++ G))).symm).sub (List.sublist_cons_self _ _)).sub (List.sublist_cons_self _ _)) | (with_reducible first | apply zB | apply zD | apply zC | apply zE | apply zF | apply zG | apply zO | apply zW) | refine zA ?_ | (refine y23 ?_ ?_; all_goals (intro h; try (exfalso; first | ((rw [hd] at h; cases h); done)))) | fail)
  ·exact zU (vs := [_]) ⟨zZ rfl, trivial⟩ (H.sub ((List.Sublist.cons _ ((((((List.sublist_append_right mb G).trans (List.sublist_append_right M _)).trans (List.sublist_append_right R _))).cons_cons _).cons_cons _)))) ⟨[], p', none, 0, fun _ => (none, 0), [], rfl, rfl, ⟨(zAG 81 9 none).sl (el := ael [] (fun _ => (none, 0))) (List.Subset.refl _) (fun _ h => absurd h (Nat.not_lt_zero _)) (by decide), fun j hj => absurd hj (Nat.not_lt_zero _)⟩, hL.fail (fun x l => zHr) (Nat.le_of_eq hlen) (by omega) hS1 hkn hS (by simpa using h), Fz.nil⟩
  ·refine zJ ⟨xs ++ [x], a, cap, fun j => if j = xs.length then (a1, cap1) else ad j, M, R ++ mb, p'⟩ rfl ⟨by rw [List.length_append]; rfl, by rw [List.length_append]; exact zT (by omega), trivial⟩ ⟨by simpa only [List.append_assoc] using H, by simp only; rw [aelS, List.length_append]; exact hO, ?_, hrz.app hfz, by rw [List.length_append]; exact hkn, hL.next hS hkn⟩ (by simp only; rw [List.length_append, List.length_singleton]; omega)
   intro j hj
   simp only at hj ⊢
   rw [List.length_append, List.length_singleton] at hj
   by_cases hjk : j = xs.length
   ·subst hjk
    rw [if_pos rfl, zBe]
    exact SlA.mono hR (List.subset_append_left _ _)
   ·rw [if_neg hjk, zBd xs (by omega)]
    exact SlA.mono (hB j (by omega)) (List.subset_append_right _ _)
 ·have hd : decide ((xs.length : Int) < (n : Int)) = false := decide_eq_false (by omega)
  have e : rd pr s pk :: sr br pr s pk.bad :: (M ++ (mb ++ G)) = rd pr s pk :: sr br pr s pk.bad :: ((M ++ mb) ++ G) := by rw [List.append_assoc]
  repeat' (first | refine y1 sg ?_ | (with_reducible first | apply zB | apply zD | apply zC | apply zF | apply zL | apply zS) | refine zA ?_ | refine y24 ?_ | (refine y23 ?_ ?_; all_goals (intro h; try (exfalso; first | ((rw [hd] at h; cases h); done)))) | fail)
  exact zU (vs := [_]) ⟨zZ rfl, trivial⟩ H ⟨xs, pk, a, cap, ad, M ++ mb, rfl, e, ⟨hO.sl (List.subset_append_left _ _) (fun _ _ => rfl) (by omega), fun j hj => SlA.mono (hB j hj) (List.subset_append_right _ _)⟩, hL.done (fun x l => zHr) (Nat.le_of_eq hlen) (by omega) hS1 (by omega), (Own.fz hO).app hfz⟩
end Go.Proofs.YtggolnppckpdlaaGreat
