/- Texts of ours, joined: the steps of the proof, or the claim's theorem. -/
import Derived.Test.YtggolnppckpdlaaGreatQ24
import Derived.Test.YtggolnppckpdlaaGreatQ38
set_option linter.unusedSimpArgs false
set_option linter.unusedVariables false
namespace Go.Proofs.YtggolnppckpdlaaGreat
open Go Go.Sk Go.RowKit
attribute [local irreducible] Go.Calls
theorem cells_one (x : Auc) (a : Option Addr) (cap : Nat) : ∀ u ∈ x.cells a cap, u.oneCell' = true := by
  intro u hu
  simp only [Auc.cells, List.mem_cons, List.not_mem_nil, or_false] at hu
  rcases hu with rfl | rfl | rfl | rfl | rfl | rfl | rfl | rfl | rfl <;> rfl
structure Ow where
  k : Nat
  a : Option Addr
  cap : Nat
  ad : Nat → Option Addr × Nat
  mo : Frag
  mb : Frag
end Go.Proofs.YtggolnppckpdlaaGreat
set_option linter.unusedSimpArgs false
set_option linter.unusedVariables false
namespace Go.Proofs.YtggolnppckpdlaaGreat
open Go Go.Sk Go.RowKit
attribute [local irreducible] Go.Calls
theorem aelS {xs : List Auc} {x : Auc} {ad : Nat → Option Addr × Nat} {a : Option Addr} {cap : Nat} :
    (List.range (xs ++ [x]).length).flatMap (ael (xs ++ [x]) (fun j => if j = xs.length then (a, cap) else ad j)) = (List.range xs.length).flatMap (ael xs ad) ++ x.cells a cap := by
  rw [List.length_append, List.length_singleton, List.range_succ, List.flatMap_append, List.flatMap_singleton]
  congr 1
  · rw [List.flatMap_def, List.flatMap_def]
    congr 1
    refine List.map_congr_left fun j hj => ?_
    have := List.mem_range.1 hj
    simp only [ael]
    rw [if_neg (by omega), getD_sn xs this]
  · simp only [ael, if_true]
    rw [getD_sl]
structure La where
  xs : List Auc
  a : Option Addr
  cap : Nat
  ad : Nat → Option Addr × Nat
  mo : Frag
  mb : Frag
  pk : Rs
def LRA (br pr : Nat) (s : ByteArray) (G : Frag) (p : Rs) : Frag → Value → Prop := fun N v => ∃ (xs : List Auc) (p' : Rs) (a : Option Addr) (cap : Nat) (ad : Nat → Option Addr × Nat) (M : Frag), v = .slice a xs.length cap ∧ N = rd pr s p' :: sr br pr s p'.bad :: (M ++ G) ∧ Aucs M a cap xs ad ∧ Step (strL s) (listP aucP) p p' xs
theorem aucP_ne {x : Auc} {l : List Nat} (h : aucP x l) : l ≠ [] := by
  obtain ⟨_, l2, _, ⟨l3, _, rfl⟩, rfl⟩ := h
  intro h
  exact short_ne _ (List.append_eq_nil_iff.1 (List.append_eq_nil_iff.1 h).2).1
theorem permB {x y z u : Nat × Obj} (M R G : Frag) : (x :: y :: z :: u :: (R ++ (M ++ G))).Perm (M ++ (x :: y :: z :: u :: (R ++ G))) := by
  have h1 : (R ++ (M ++ G)).Perm (M ++ (R ++ G)) := List.perm_append_comm_assoc R M G
  exact ((((h1.cons u).cons z).cons y).cons x).trans (permL4 M _)
set_option maxHeartbeats 2000000 in
theorem c_listAuc {w0 w : World} {G : Frag} {br pr : Nat} {s : ByteArray} {p : Rs} {g : FuncId} {caps : List Value} (hg : Ent Tryz.prog g) (hgt : GtA w0 G br pr s g caps)
    (hp : p.pos ≤ s.size) (hs : s.size ≤ 16777216) (H : St w0 (rd pr s p :: sr br pr s p.bad :: G) w) :
    Calls Tryz.prog 133 [ptr br, .func (.func g) #[] caps.toArray].toArray w (RetF (LRA br pr s G p) w0) := by
  have hlen := strL_len s
  refine enter [.tmp 4] Tryz.func133 rfl Tryz.ntmps133 rfl rfl ?_
  repeat' (first | refine y1 sg ?_ | refine y3 ?_ | refine y7 sg H ?_ | (refine' y33 ent129 ?_ ?_; rotate_left 2; exact c_sUpTo s.size (by omega) hp (by omega) H; rintro v N w ⟨x, p1, rfl, rfl, ⟨hx0, hx1⟩, hS1⟩ H) | with_reducible apply OW.nil | with_reducible apply thn_n | with_reducible apply CW.seq | refine CW.region ?_ | with_reducible apply CW.block | fail)
  obtain ⟨n, rfl⟩ : ∃ n : Nat, x = (n : Int) := ⟨x.toNat, by omega⟩
  refine CW.loopI [(4, 8), (15, 33)] (fun y : La => [(5, .slice y.a y.xs.length y.cap), (15, .int .i64 (y.xs.length : Int))]) (fun y w => St w0 (rd pr s y.pk :: sr br pr s y.pk.bad :: (y.mo ++ (y.mb ++ G))) w ∧ Go.Sk.Own y.mo 81 9 y.a y.xs.length y.cap ((List.range y.xs.length).flatMap (ael y.xs y.ad)) ∧ (∀ j, j < y.xs.length → Bids y.mb (y.ad j).1 (y.ad j).2 (y.xs.getD j default).bids) ∧ y.xs.length ≤ n ∧ ListAt (strL s) aucP p1 y.pk n y.xs) (fun y => n - y.xs.length) ⟨[], none, 0, fun _ => (none, 0), [], [], p1⟩ ⟨rfl, rfl, trivial⟩ ⟨H, Go.Sk.Own.nil _ _ _, fun j hj => absurd hj (Nat.not_lt_zero _), Nat.zero_le _, ListAt.first hS1.inv⟩ ?_
  clear H
  rintro ⟨xs, a, cap, ad, M, mb, pk⟩ gh w ⟨H, hO, hB, hk, hL⟩
  simp only at H hO hB hk hL ⊢
  by_cases hkn : xs.length < n
  · have hd : decide ((xs.length : Int) < (n : Int)) = true := decide_eq_true (by omega)
    have hpk := hL.inv
    repeat' (first | refine y1 sg ?_ | refine y3 ?_ | refine y7 sg H ?_ | (refine y10 sg H ?_; intro b w H) | (refine y11 sg H ?_; intro w H) | (refine OX.callM rfl rfl (En.cloV hg rfl rfl rfl) (hgt (M ++ (mb ++ G)) pk _ (fun _ h => List.mem_append_right _ (List.mem_append_right _ h)) (by omega) H) ?_; rintro v N w ⟨x, a1, cap1, R, p', rfl, rfl, hR, hS⟩ H) | (refine' y30 ent49 ?_ ?_; rotate_left; exact c_Rerr H.mem (by repeat (first | exact List.Mem.head _ | exact List.mem_append_right _ (List.Mem.head _) | refine List.Mem.tail _ ?_)); intro w hcl; replace H := H.ext hcl; clear hcl) | ((with_reducible apply OX.buildA sg H); exact rfl; exact rfl; exact rfl; exact rfl; exact rfl; exact rfl; exact rfl; exact rfl; exact rfl; exact rfl; exact rfl; exact rfl; intro b w H _) | (have hp := H.perm (permB M R (mb ++ G)); refine OX.append sg 9 200 (M := M) hp rfl rfl rfl rfl rfl rfl rfl rfl rfl rfl rfl hO (Src.whole hp.mem (List.mem_append_right _ (List.Mem.head _))) rfl (cells_one _ _ _) (by unfold maxLen; omega) (by omega) ?_; clear hp hO; intro a cap M w hO H; replace H := ((H.perm (permL4 M (R ++ (mb ++ G))).symm).sub (List.sublist_cons_self _ _)).sub (List.sublist_cons_self _ _)) | with_reducible apply OW.nil | with_reducible apply thn_n | with_reducible apply CW.seq | refine CW.region ?_ | with_reducible apply CW.block | with_reducible apply CW.ret | with_reducible apply CW.skip | with_reducible apply thn_r | with_reducible apply blk_r | (refine y23 ?_ ?_; all_goals (intro h; try (exfalso; first | ((rw [hd] at h; cases h); done)))) | fail)
    · exact retVF (vs := [_]) ⟨rdvT rfl, trivial⟩ (H.sub ((List.Sublist.cons _ ((((((List.sublist_append_right mb G).trans (List.sublist_append_right M _)).trans (List.sublist_append_right R _))).cons_cons _).cons_cons _)))) ⟨[], p', none, 0, fun _ => (none, 0), [], rfl, rfl, ⟨(Go.Sk.Own.nil 81 9 none).sl (el := ael [] (fun _ => (none, 0))) (List.Subset.refl _) (fun _ h => absurd h (Nat.not_lt_zero _)) (by decide), fun j hj => absurd hj (Nat.not_lt_zero _)⟩, hL.fail (fun x l => aucP_ne) (Nat.le_of_eq hlen) (by omega) hS1 hkn hS (by simpa using h)⟩
    · refine Again.mk ⟨xs ++ [x], a, cap, fun j => if j = xs.length then (a1, cap1) else ad j, M, R ++ mb, p'⟩ rfl ⟨by rw [List.length_append]; rfl, by rw [List.length_append]; exact vsucc (by omega), trivial⟩ ⟨by simpa only [List.append_assoc] using H, by simp only; rw [aelS, List.length_append]; exact hO, ?_, by rw [List.length_append]; exact hkn, hL.next hS hkn⟩ (by simp only; rw [List.length_append, List.length_singleton]; omega)
      intro j hj
      simp only at hj ⊢
      rw [List.length_append, List.length_singleton] at hj
      by_cases hjk : j = xs.length
      · subst hjk
        rw [if_pos rfl, getD_sl]
        exact SlA.mono hR (List.subset_append_left _ _)
      · rw [if_neg hjk, getD_sn xs (by omega)]
        exact SlA.mono (hB j (by omega)) (List.subset_append_right _ _)
  · have hd : decide ((xs.length : Int) < (n : Int)) = false := decide_eq_false (by omega)
    have e : rd pr s pk :: sr br pr s pk.bad :: (M ++ (mb ++ G)) = rd pr s pk :: sr br pr s pk.bad :: ((M ++ mb) ++ G) := by rw [List.append_assoc]
    repeat' (first | refine y1 sg ?_ | with_reducible apply OW.nil | with_reducible apply thn_n | with_reducible apply CW.seq | refine CW.region ?_ | with_reducible apply CW.ret | with_reducible apply CW.exit | with_reducible apply thn_e | refine y24 ?_ | (refine y23 ?_ ?_; all_goals (intro h; try (exfalso; first | ((rw [hd] at h; cases h); done)))) | fail)
    exact retVF (vs := [_]) ⟨rdvT rfl, trivial⟩ H ⟨xs, pk, a, cap, ad, M ++ mb, rfl, e, ⟨hO.sl (List.subset_append_left _ _) (fun _ _ => rfl) (by omega), fun j hj => SlA.mono (hB j hj) (List.subset_append_right _ _)⟩, hL.done (fun x l => aucP_ne) (Nat.le_of_eq hlen) (by omega) hS1 (by omega)⟩
end Go.Proofs.YtggolnppckpdlaaGreat
