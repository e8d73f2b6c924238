/- The law's 'many' and 'owns', the document's Get and MayAll, walked. -/
import Derived.Test.YtkcoemikglbomaaA15
set_option linter.unusedSimpArgs false
set_option linter.unusedVariables false
namespace Go.Proofs.Ytkcoemikglbomaa
open Go Go.Sk Go.RowKit
attribute [local irreducible] Go.Calls
/-- How many rows a statement would go over. -/
def cnt (l : List Auc) : Nat → Int
  | 0 => 0
  | k + 1 => cnt l k + 1 + (if (1001 : Int) < ((l.getD k default).bids.length : Int) then 1001 else ((l.getD k default).bids.length : Int))
theorem cnt_ge {l : List Auc} : ∀ k : Nat, (k : Int) ≤ cnt l k ∧ ∀ j : Nat, j ≤ k → cnt l j ≤ cnt l k ∧ (j < k → cnt l j + 1 + (if (1001 : Int) < ((l.getD j default).bids.length : Int) then 1001 else ((l.getD j default).bids.length : Int)) ≤ cnt l k)
  | 0 => ⟨Int.le_refl _, fun j hj => by obtain rfl : j = 0 := by omega
                                        exact ⟨Int.le_refl _, fun h => by omega⟩⟩
  | k + 1 => by
    obtain ⟨h1, h2⟩ := cnt_ge (l := l) k
    have h3 : cnt l k + 1 ≤ cnt l (k + 1) := by rw [cnt]; split <;> omega
    refine ⟨by omega, fun j hj => ?_⟩
    by_cases hjk : j = k + 1
    · subst hjk; exact ⟨Int.le_refl _, fun h => by omega⟩
    · obtain ⟨h4, h5⟩ := h2 j (by omega)
      refine ⟨by omega, fun _ => ?_⟩
      by_cases hj2 : j = k
      · subst hj2; rw [cnt]; exact Int.le_refl _
      · have := h5 (by omega); omega
def manyF (l : List Auc) : Bool := decide (cnt l l.length > 1000)
theorem many_no {l : List Auc} (h : manyF l = false) : l.length ≤ 1000 ∧ ∀ j, j < l.length → (l.getD j default).bids.length ≤ 1000 := by
  have h := of_decide_eq_false h
  obtain ⟨h1, h2⟩ := cnt_ge (l := l) l.length
  refine ⟨by omega, fun j hj => ?_⟩
  obtain ⟨_, h4⟩ := h2 j (by omega)
  have h4 := h4 hj
  have h5 := (cnt_ge (l := l) j).1
  split at h4 <;> omega
set_option maxHeartbeats 1000000 in
theorem c_many {a : Option Addr} {cap b0 off : Nat} {cs : List Value} {T : TypeId} {fr : Nat × Nat} (l : List Auc) (ad : Nat → Option Addr × Nat) {F : Frag} (w0 : World) (hF : Mem w0 F) (hs : SlB F 9 a l.length b0 off cs T fr (ael l ad)) :
    Calls Try.prog 19 [.slice a l.length cap].toArray w0 (Ret (.bool (manyF l)) w0) := by
  refine enter [.tmp 2] Try.func19 rfl Try.ntmps19 rfl rfl ?_
  have H := St.start w0
  repeat' (first | refine y1 sg ?_ | refine y2 sg ?_ | refine y3 ?_ | refine y4 ?_ | refine y5 sg ?_ | refine y6 sg ?_ | refine y7 sg H ?_ | refine y8 sg H ?_ | (refine y9 H ?_; intro b w H) | (refine y10 sg H ?_; intro b w H) | (refine y11 sg H ?_; intro w H) | refine y12 ?_ | refine y13 ?_ | refine y14 ?_ | refine y15 ?_ | refine y16 ?_ | (refine y17 ?_ ?_; all_goals intro h) | (refine y18 ?_ ?_; all_goals intro h) | with_reducible apply OW.app | with_reducible apply OW.app0 | with_reducible apply QW.app | with_reducible apply QW.app0 | with_reducible apply OW.nil | (with_reducible apply QW.nil; intro w hcl; replace H := H.ext hcl; clear hcl) | refine y19 ?_ | with_reducible apply thn_n | with_reducible apply CW.seq | with_reducible apply CW.region | refine y20 mixed ?_ | with_reducible apply CW.block | with_reducible apply CW.ret | with_reducible apply CW.exit | with_reducible apply CW.skip | with_reducible apply thn_r | with_reducible apply thn_e | with_reducible apply blk_n | with_reducible apply blk_r | refine y24 ?_ | refine y25 ?_ | refine y21 ?_ | refine y22 ?_ | fail)
  refine CW.loopI [(3, 24)] (fun k : Nat => [(4, .int .i64 (k : Int)), (3, .int .i64 (cnt l k))]) (fun k w => k ≤ l.length ∧ cnt l k ≤ 2002 ∧ St w0 [] w) (fun k => l.length - k) 0 ⟨rfl, rfl, trivial⟩ ⟨Nat.zero_le _, show (0 : Int) ≤ 2002 by decide, H⟩ ?_
  clear H
  rintro k g w ⟨hk, hb, H⟩
  obtain ⟨h1, h2⟩ := cnt_ge (l := l) k
  repeat' (first | refine y1 sg ?_ | refine y2 sg ?_ | refine y3 ?_ | refine y4 ?_ | refine y5 sg ?_ | refine y6 sg ?_ | refine y7 sg H ?_ | refine y8 sg H ?_ | (refine y9 H ?_; intro b w H) | (refine y10 sg H ?_; intro b w H) | (refine y11 sg H ?_; intro w H) | refine y12 ?_ | refine y13 ?_ | refine y14 ?_ | refine y15 ?_ | refine y16 ?_ | (refine y17 ?_ ?_; all_goals intro h) | (refine y18 ?_ ?_; all_goals intro h) | with_reducible apply OW.app | with_reducible apply OW.app0 | with_reducible apply QW.app | with_reducible apply QW.app0 | with_reducible apply OW.nil | (with_reducible apply QW.nil; intro w hcl; replace H := H.ext hcl; clear hcl) | refine y19 ?_ | with_reducible apply thn_n | with_reducible apply CW.seq | with_reducible apply CW.region | refine y20 mixed ?_ | with_reducible apply CW.block | with_reducible apply CW.ret | with_reducible apply CW.exit | with_reducible apply CW.skip | with_reducible apply thn_r | with_reducible apply thn_e | with_reducible apply blk_n | with_reducible apply blk_r | refine y24 ?_ | refine y25 ?_ | refine y21 ?_ | refine y22 ?_ | fail)
  · refine CW.cond rfl (fun h3 => ?_) (fun h3 => ?_)
    · have hlt : k < l.length := by have := of_decide_eq_true h; omega
      have hc := of_decide_eq_true h3
      repeat' (first | refine y1 sg ?_ | refine y2 sg ?_ | refine y3 ?_ | refine y4 ?_ | refine y5 sg ?_ | refine y6 sg ?_ | refine y7 sg H ?_ | refine y8 sg H ?_ | (refine y9 H ?_; intro b w H) | (refine y10 sg H ?_; intro b w H) | (refine y11 sg H ?_; intro w H) | refine y12 ?_ | (refine y40 sg (hs) ?_ ?_ ?_; (omega); (omega)) | (refine y41 sg (hs) ?_ ?_ ?_; (omega); (omega)) | (refine y44 sg (hs) ((H.memF hF)) ?_ ?_; (omega)) | (refine y45 sg (hs) ((H.memF hF)) ?_ ?_; (omega)) | refine y13 ?_ | refine y14 ?_ | refine y15 ?_ | refine y16 ?_ | (refine y17 ?_ ?_; all_goals intro h) | (refine y18 ?_ ?_; all_goals intro h) | with_reducible apply OW.app | with_reducible apply OW.app0 | with_reducible apply QW.app | with_reducible apply QW.app0 | with_reducible apply OW.nil | (with_reducible apply QW.nil; intro w hcl; replace H := H.ext hcl; clear hcl) | refine y19 ?_ | with_reducible apply thn_n | with_reducible apply CW.seq | with_reducible apply CW.region | refine y20 mixed ?_ | with_reducible apply CW.block | with_reducible apply CW.ret | with_reducible apply CW.exit | with_reducible apply CW.skip | with_reducible apply thn_r | with_reducible apply thn_e | with_reducible apply blk_n | with_reducible apply blk_r | refine y24 ?_ | refine y25 ?_ | refine y21 ?_ | refine y22 ?_ | fail)
      refine Again.mk (k + 1) rfl ⟨vsucc (by omega), ?_, trivial⟩ ⟨hlt, ?_, H.sub (List.nil_sublist _)⟩ (by omega)
      · rw [w64 (x := cnt l k + 1) (by omega) (by omega)]
        refine vint ?_ ?_ ?_
        · split <;> omega
        · split <;> omega
        · rfl
      · rw [cnt]; split <;> omega
    · repeat' (first | refine y1 sg ?_ | refine y2 sg ?_ | refine y3 ?_ | refine y4 ?_ | refine y5 sg ?_ | refine y6 sg ?_ | refine y7 sg H ?_ | refine y8 sg H ?_ | (refine y9 H ?_; intro b w H) | (refine y10 sg H ?_; intro b w H) | (refine y11 sg H ?_; intro w H) | refine y12 ?_ | refine y13 ?_ | refine y14 ?_ | refine y15 ?_ | refine y16 ?_ | (refine y17 ?_ ?_; all_goals intro h) | (refine y18 ?_ ?_; all_goals intro h) | with_reducible apply OW.app | with_reducible apply OW.app0 | with_reducible apply QW.app | with_reducible apply QW.app0 | with_reducible apply OW.nil | (with_reducible apply QW.nil; intro w hcl; replace H := H.ext hcl; clear hcl) | refine y19 ?_ | with_reducible apply thn_n | with_reducible apply CW.seq | with_reducible apply CW.region | refine y20 mixed ?_ | with_reducible apply CW.block | with_reducible apply CW.ret | with_reducible apply CW.exit | with_reducible apply CW.skip | with_reducible apply thn_r | with_reducible apply thn_e | with_reducible apply blk_n | with_reducible apply blk_r | refine y24 ?_ | refine y25 ?_ | refine y21 ?_ | refine y22 ?_ | fail)
      have hc := of_decide_eq_false h3
      exact ret1 rfl H.cl (by
        have := ((cnt_ge (l := l) l.length).2 k hk).1
        rw [manyF, decide_eq_true (by omega), decide_eq_true (by omega)])
  · have hkn : k = l.length := by have := of_decide_eq_false h; omega
    subst hkn
    repeat' (first | refine y1 sg ?_ | refine y2 sg ?_ | refine y3 ?_ | refine y4 ?_ | refine y5 sg ?_ | refine y6 sg ?_ | refine y7 sg H ?_ | refine y8 sg H ?_ | (refine y9 H ?_; intro b w H) | (refine y10 sg H ?_; intro b w H) | (refine y11 sg H ?_; intro w H) | refine y12 ?_ | refine y13 ?_ | refine y14 ?_ | refine y15 ?_ | refine y16 ?_ | (refine y17 ?_ ?_; all_goals intro h) | (refine y18 ?_ ?_; all_goals intro h) | with_reducible apply OW.app | with_reducible apply OW.app0 | with_reducible apply QW.app | with_reducible apply QW.app0 | with_reducible apply OW.nil | (with_reducible apply QW.nil; intro w hcl; replace H := H.ext hcl; clear hcl) | refine y19 ?_ | with_reducible apply thn_n | with_reducible apply CW.seq | with_reducible apply CW.region | refine y20 mixed ?_ | with_reducible apply CW.block | with_reducible apply CW.ret | with_reducible apply CW.exit | with_reducible apply CW.skip | with_reducible apply thn_r | with_reducible apply thn_e | with_reducible apply blk_n | with_reducible apply blk_r | refine y24 ?_ | refine y25 ?_ | refine y21 ?_ | refine y22 ?_ | fail)
    exact ret1 rfl H.cl rfl
/-! ### Auctions in new memory -/
theorem ael_len (l : List Auc) (ad : Nat → Option Addr × Nat) (j : Nat) : (ael l ad j).length = 9 := rfl
theorem cells_one (x : Auc) (a : Option Addr) (cap : Nat) : ∀ u ∈ x.cells a cap, u.oneCell' = true := by
  intro u hu
  simp only [Auc.cells, List.mem_cons, List.not_mem_nil, or_false] at hu
  rcases hu with rfl | rfl | rfl | rfl | rfl | rfl | rfl | rfl | rfl <;> rfl
theorem ael_snoc {l : List Auc} {ad : Nat → Option Addr × Nat} {k : Nat} {a : Option Addr} {cap : Nat} :
    (List.range k).flatMap (ael l ad) ++ (l.getD k default).cells a cap = (List.range (k + 1)).flatMap (ael l (fun j => if j = k then (a, cap) else ad j)) := by
  rw [List.range_succ, List.flatMap_append, List.flatMap_singleton]
  congr 1
  · rw [List.flatMap_def, List.flatMap_def]
    congr 1
    refine List.map_congr_left fun j hj => ?_
    have := List.mem_range.1 hj
    simp only [ael]
    rw [if_neg (by omega)]
  · simp only [ael, if_true]
def OwnsP (l : List Auc) (M : Frag) (v : Value) : Prop := ∃ a cap ad, v = .slice a l.length cap ∧ Aucs M a cap l ad
structure Ow where
  k : Nat
  a : Option Addr
  cap : Nat
  ad : Nat → Option Addr × Nat
  mo : Frag
  mb : Frag
set_option maxHeartbeats 2000000 in
theorem c_owns {a : Option Addr} {cap : Nat} (l : List Auc) (ad : Nat → Option Addr × Nat) {F : Frag} (w0 : World) (hF : Mem w0 F) (hs0 : Aucs F a cap l ad) (hn : l.length ≤ 1000) (hb : ∀ j, j < l.length → (l.getD j default).bids.length ≤ 1000) :
    Calls Try.prog 20 [.slice a l.length cap].toArray w0 (RetF (OwnsP l) w0) := by
  obtain ⟨⟨hnc, hc, b0, off, cs, T, fr, hs⟩, hbs⟩ := hs0
  refine enter [.tmp 2] Try.func20 rfl Try.ntmps20 rfl rfl ?_
  have H := St.start w0
  repeat' (first | refine y1 sg ?_ | refine y2 sg ?_ | refine y3 ?_ | refine y4 ?_ | refine y5 sg ?_ | refine y6 sg ?_ | refine y7 sg H ?_ | refine y8 sg H ?_ | (refine y9 H ?_; intro b w H) | (refine y10 sg H ?_; intro b w H) | (refine y11 sg H ?_; intro w H) | refine y12 ?_ | refine y13 ?_ | refine y14 ?_ | refine y15 ?_ | refine y16 ?_ | (refine y17 ?_ ?_; all_goals intro h) | (refine y18 ?_ ?_; all_goals intro h) | with_reducible apply OW.app | with_reducible apply OW.app0 | with_reducible apply QW.app | with_reducible apply QW.app0 | with_reducible apply OW.nil | (with_reducible apply QW.nil; intro w hcl; replace H := H.ext hcl; clear hcl) | refine y19 ?_ | with_reducible apply thn_n | with_reducible apply CW.seq | with_reducible apply CW.region | refine y20 mixed ?_ | with_reducible apply CW.block | with_reducible apply CW.ret | with_reducible apply CW.exit | with_reducible apply CW.skip | with_reducible apply thn_r | with_reducible apply thn_e | with_reducible apply blk_n | with_reducible apply blk_r | refine y24 ?_ | refine y25 ?_ | refine y21 ?_ | refine y22 ?_ | fail)
  refine CW.loopI [(3, 18)] (fun x : Ow => [(4, .int .i64 (x.k : Int)), (3, .slice x.a x.k x.cap)])
    (fun x w => x.k ≤ l.length ∧ Own x.mo 24 9 x.a x.k x.cap ((List.range x.k).flatMap (ael l x.ad)) ∧ (∀ j, j < x.k → Bids x.mb (x.ad j).1 (x.ad j).2 (l.getD j default).bids) ∧ St w0 (x.mo ++ x.mb) w) (fun x => l.length - x.k) ⟨0, none, 0, fun _ => (none, 0), [], []⟩
    ⟨rfl, rfl, trivial⟩ ⟨Nat.zero_le _, Own.nil _ _ _, fun j hj => absurd hj (Nat.not_lt_zero _), H⟩ ?_
  clear H
  rintro ⟨k, ao, co, ad2, Mo, Mb⟩ g w ⟨hk, hO, hB, H⟩
  simp only at hk hO hB H ⊢
  repeat' (first | refine y1 sg ?_ | refine y2 sg ?_ | refine y3 ?_ | refine y4 ?_ | refine y5 sg ?_ | refine y6 sg ?_ | refine y7 sg H ?_ | refine y8 sg H ?_ | (refine y9 H ?_; intro b w H) | (refine y10 sg H ?_; intro b w H) | (refine y11 sg H ?_; intro w H) | refine y12 ?_ | refine y13 ?_ | refine y14 ?_ | refine y15 ?_ | refine y16 ?_ | (refine y17 ?_ ?_; all_goals intro h) | (refine y18 ?_ ?_; all_goals intro h) | with_reducible apply OW.app | with_reducible apply OW.app0 | with_reducible apply QW.app | with_reducible apply QW.app0 | with_reducible apply OW.nil | (with_reducible apply QW.nil; intro w hcl; replace H := H.ext hcl; clear hcl) | refine y19 ?_ | with_reducible apply thn_n | with_reducible apply CW.seq | with_reducible apply CW.region | refine y20 mixed ?_ | with_reducible apply CW.block | with_reducible apply CW.ret | with_reducible apply CW.exit | with_reducible apply CW.skip | with_reducible apply thn_r | with_reducible apply thn_e | with_reducible apply blk_n | with_reducible apply blk_r | refine y24 ?_ | refine y25 ?_ | refine y21 ?_ | refine y22 ?_ | fail)
  refine CW.cond rfl (fun h => ?_) (fun h => ?_)
  · have hlt : k < l.length := by have := of_decide_eq_true h; omega
    repeat' (first | refine y1 sg ?_ | refine y2 sg ?_ | refine y3 ?_ | refine y4 ?_ | refine y5 sg ?_ | refine y6 sg ?_ | refine y7 sg H ?_ | refine y8 sg H ?_ | (refine y9 H ?_; intro b w H) | (refine y10 sg H ?_; intro b w H) | (refine y11 sg H ?_; intro w H) | refine y12 ?_ | (refine y40 sg (hs) ?_ ?_ ?_; (omega); (omega)) | (refine y41 sg (hs) ?_ ?_ ?_; (omega); (omega)) | (refine y42 sg (hs) ((H.memF hF)) ?_ ?_; (omega)) | (refine y43 sg (hs) ((H.memF hF)) ?_ ?_; (omega)) | (refine' y32 ent13 ?_ ?_; rotate_left; exact c_Own (l.getD k default) _ (H.memF hF) (hbs k hlt) (by have := hb k hlt; omega); intro v M w hR hS; replace H := H.addR hS; clear hS; (try simp only [List.cons_append, List.nil_append] at H); obtain ⟨a1, cap1, rfl, hO1⟩ := hR) | ((with_reducible apply OX.buildA sg H); exact rfl; exact rfl; exact rfl; exact rfl; exact rfl; exact rfl; exact rfl; exact rfl; exact rfl; exact rfl; exact rfl; exact rfl; intro b w H _) | (have hp := H.perm (show (_ :: ((Mo ++ Mb) ++ M)).Perm (Mo ++ (_ :: (Mb ++ M))) by rw [List.append_assoc]; exact List.perm_middle.symm); refine OX.append sg 9 88 (M := Mo) hp rfl rfl rfl rfl rfl rfl rfl rfl rfl rfl rfl hO (Src.whole hp.mem (List.mem_append_right _ (List.Mem.head _))) rfl (cells_one _ _ _) (by unfold maxLen; omega) (by omega) ?_; intro a2 cap2 M2 w hO2 H; clear hp) | refine y13 ?_ | refine y14 ?_ | refine y15 ?_ | refine y16 ?_ | (refine y17 ?_ ?_; all_goals intro h) | (refine y18 ?_ ?_; all_goals intro h) | with_reducible apply OW.app | with_reducible apply OW.app0 | with_reducible apply QW.app | with_reducible apply QW.app0 | with_reducible apply OW.nil | (with_reducible apply QW.nil; intro w hcl; replace H := H.ext hcl; clear hcl) | refine y19 ?_ | with_reducible apply thn_n | with_reducible apply CW.seq | with_reducible apply CW.region | refine y20 mixed ?_ | with_reducible apply CW.block | with_reducible apply CW.ret | with_reducible apply CW.exit | with_reducible apply CW.skip | with_reducible apply thn_r | with_reducible apply thn_e | with_reducible apply blk_n | with_reducible apply blk_r | refine y24 ?_ | refine y25 ?_ | refine y21 ?_ | refine y22 ?_ | fail)
    refine Again.mk ⟨k + 1, a2, cap2, fun j => if j = k then (a1, cap1) else ad2 j, M2, Mb ++ M⟩ rfl ⟨vsucc (by omega), rfl, trivial⟩ ⟨hlt, ?_, ?_, H.sub (List.Sublist.append (List.Sublist.refl _) (List.sublist_cons_self _ _))⟩ (by show l.length - (k + 1) < l.length - k; omega)
    · show Own M2 _ 9 a2 (k + 1) cap2 _
      rw [← ael_snoc]
      exact hO2
    · intro j hj
      show Bids (Mb ++ M) _ _ _
      by_cases hjk : j = k
      · subst hjk
        simp only [if_true]
        exact hO1.bids (fun p hp => List.mem_append_right _ hp) (by have := hb j hlt; omega)
      · simp only [if_neg hjk]
        exact (hB j (by have : j < k + 1 := hj; omega)).mono (List.subset_append_left _ _)
  · have hkn : k = l.length := by have := of_decide_eq_false h; omega
    subst hkn
    repeat' (first | refine y1 sg ?_ | refine y2 sg ?_ | refine y3 ?_ | refine y4 ?_ | refine y5 sg ?_ | refine y6 sg ?_ | refine y7 sg H ?_ | refine y8 sg H ?_ | (refine y9 H ?_; intro b w H) | (refine y10 sg H ?_; intro b w H) | (refine y11 sg H ?_; intro w H) | refine y12 ?_ | refine y13 ?_ | refine y14 ?_ | refine y15 ?_ | refine y16 ?_ | (refine y17 ?_ ?_; all_goals intro h) | (refine y18 ?_ ?_; all_goals intro h) | with_reducible apply OW.app | with_reducible apply OW.app0 | with_reducible apply QW.app | with_reducible apply QW.app0 | with_reducible apply OW.nil | (with_reducible apply QW.nil; intro w hcl; replace H := H.ext hcl; clear hcl) | refine y19 ?_ | with_reducible apply thn_n | with_reducible apply CW.seq | with_reducible apply CW.region | refine y20 mixed ?_ | with_reducible apply CW.block | with_reducible apply CW.ret | with_reducible apply CW.exit | with_reducible apply CW.skip | with_reducible apply thn_r | with_reducible apply thn_e | with_reducible apply blk_n | with_reducible apply blk_r | refine y24 ?_ | refine y25 ?_ | refine y21 ?_ | refine y22 ?_ | fail)
    exact ret1F rfl H ⟨ao, co, ad2, rfl, Own.sl hO (List.subset_append_left _ _) (fun j _ => ael_len _ _ _) hc, fun j hj => (hB j hj).mono (List.subset_append_right _ _)⟩
/-! ### The document's Get, MayAll -/
set_option maxHeartbeats 1000000 in
theorem c_RGet {a : Option Addr} {cap : Nat} (l : List Auc) (ad : Nat → Option Addr × Nat) (id : Int) {F : Frag} (w0 : World) (hF : Mem w0 F) (hs0 : Aucs F a cap l ad) (hb : ∀ j, j < l.length → (l.getD j default).bids.length ≤ 8796093022208) :
    Calls Try.prog 37 [.slice a l.length cap, .int .i64 id].toArray w0 (RetF (fun M v => ∃ u, OwnA (getF l id).1 M u ∧ v = .tuple #[u, .bool (getF l id).2]) w0) := by
  obtain ⟨⟨hnc, hc, b0, off, cs, T, fr, hs⟩, hbs⟩ := hs0
  refine enter [.cell 4 24, .tmp 5] Try.func37 rfl Try.ntmps37 rfl rfl ?_
  have H := St.start w0
  repeat' (first | refine y1 sg ?_ | refine y2 sg ?_ | refine y3 ?_ | refine y4 ?_ | refine y5 sg ?_ | refine y6 sg ?_ | refine y7 sg H ?_ | refine y8 sg H ?_ | (refine y9 H ?_; intro b w H) | (refine y10 sg H ?_; intro b w H) | (refine y11 sg H ?_; intro w H) | refine y12 ?_ | refine y13 ?_ | refine y14 ?_ | refine y15 ?_ | refine y16 ?_ | (refine y17 ?_ ?_; all_goals intro h) | (refine y18 ?_ ?_; all_goals intro h) | with_reducible apply OW.app | with_reducible apply OW.app0 | with_reducible apply QW.app | with_reducible apply QW.app0 | with_reducible apply OW.nil | (with_reducible apply QW.nil; intro w hcl; replace H := H.ext hcl; clear hcl) | refine y19 ?_ | with_reducible apply thn_n | with_reducible apply CW.seq | with_reducible apply CW.region | refine y20 mixed ?_ | with_reducible apply CW.block | with_reducible apply CW.ret | with_reducible apply CW.exit | with_reducible apply CW.skip | with_reducible apply thn_r | with_reducible apply thn_e | with_reducible apply blk_n | with_reducible apply blk_r | refine y24 ?_ | refine y25 ?_ | refine y21 ?_ | refine y22 ?_ | fail)
  refine CW.loopI [(5, 24)] (fun k : Nat => [(6, .int .i64 (k : Int))]) (fun k w => k ≤ l.length ∧ (∀ j, j < k → ((l.getD j default).id == id) = false) ∧ St w0 [cb _ (Auc.zero.cells none 0) 24] w) (fun k => l.length - k) 0 ⟨rfl, trivial⟩ ⟨Nat.zero_le _, fun j hj => absurd hj (Nat.not_lt_zero _), H⟩ ?_
  clear H
  rintro k g w ⟨hk, hk1, H⟩
  repeat' (first | refine y1 sg ?_ | refine y2 sg ?_ | refine y3 ?_ | refine y4 ?_ | refine y5 sg ?_ | refine y6 sg ?_ | refine y7 sg H ?_ | refine y8 sg H ?_ | (refine y9 H ?_; intro b w H) | (refine y10 sg H ?_; intro b w H) | (refine y11 sg H ?_; intro w H) | refine y12 ?_ | refine y13 ?_ | refine y14 ?_ | refine y15 ?_ | refine y16 ?_ | (refine y17 ?_ ?_; all_goals intro h) | (refine y18 ?_ ?_; all_goals intro h) | with_reducible apply OW.app | with_reducible apply OW.app0 | with_reducible apply QW.app | with_reducible apply QW.app0 | with_reducible apply OW.nil | (with_reducible apply QW.nil; intro w hcl; replace H := H.ext hcl; clear hcl) | refine y19 ?_ | with_reducible apply thn_n | with_reducible apply CW.seq | with_reducible apply CW.region | refine y20 mixed ?_ | with_reducible apply CW.block | with_reducible apply CW.ret | with_reducible apply CW.exit | with_reducible apply CW.skip | with_reducible apply thn_r | with_reducible apply thn_e | with_reducible apply blk_n | with_reducible apply blk_r | refine y24 ?_ | refine y25 ?_ | refine y21 ?_ | refine y22 ?_ | fail)
  refine CW.cond rfl (fun h => ?_) (fun h => ?_)
  · have hlt : k < l.length := by have := of_decide_eq_true h; omega
    repeat' (first | refine y1 sg ?_ | refine y2 sg ?_ | refine y3 ?_ | refine y4 ?_ | refine y5 sg ?_ | refine y6 sg ?_ | refine y7 sg H ?_ | refine y8 sg H ?_ | (refine y9 H ?_; intro b w H) | (refine y10 sg H ?_; intro b w H) | (refine y11 sg H ?_; intro w H) | refine y12 ?_ | (refine y40 sg (hs) ?_ ?_ ?_; (omega); (omega)) | (refine y41 sg (hs) ?_ ?_ ?_; (omega); (omega)) | (refine y44 sg (hs) ((H.memF hF)) ?_ ?_; (omega)) | (refine y45 sg (hs) ((H.memF hF)) ?_ ?_; (omega)) | refine y13 ?_ | refine y14 ?_ | refine y15 ?_ | refine y16 ?_ | (refine y17 ?_ ?_; all_goals intro h) | (refine y18 ?_ ?_; all_goals intro h) | with_reducible apply OW.app | with_reducible apply OW.app0 | with_reducible apply QW.app | with_reducible apply QW.app0 | with_reducible apply OW.nil | (with_reducible apply QW.nil; intro w hcl; replace H := H.ext hcl; clear hcl) | refine y19 ?_ | with_reducible apply thn_n | with_reducible apply CW.seq | with_reducible apply CW.region | refine y20 mixed ?_ | with_reducible apply CW.block | with_reducible apply CW.ret | with_reducible apply CW.exit | with_reducible apply CW.skip | with_reducible apply thn_r | with_reducible apply thn_e | with_reducible apply blk_n | with_reducible apply blk_r | refine y24 ?_ | refine y25 ?_ | refine y21 ?_ | refine y22 ?_ | fail)
    refine CW.cond rfl (fun h3 => ?_) (fun h3 => ?_)
    · have e : getF l id = (l.getD k default, true) := by
        unfold getF getI
        rw [idx_hit hlt hk1 h3, if_neg (by omega), Int.toNat_natCast]
      repeat' (first | refine y1 sg ?_ | refine y2 sg ?_ | refine y3 ?_ | refine y4 ?_ | refine y5 sg ?_ | refine y6 sg ?_ | refine y7 sg H ?_ | refine y8 sg H ?_ | (refine y9 H ?_; intro b w H) | (refine y10 sg H ?_; intro b w H) | (refine y11 sg H ?_; intro w H) | refine y12 ?_ | (refine y40 sg (hs) ?_ ?_ ?_; (omega); (omega)) | (refine y41 sg (hs) ?_ ?_ ?_; (omega); (omega)) | (refine y42 sg (hs) ((H.memF hF)) ?_ ?_; (omega)) | (refine y43 sg (hs) ((H.memF hF)) ?_ ?_; (omega)) | (refine' y32 ent13 ?_ ?_; rotate_left; exact c_Own (l.getD k default) _ (H.memF hF) (hbs k hlt) (hb k hlt); intro v M w hR hS; replace H := H.addR hS; clear hS; (try simp only [List.cons_append, List.nil_append] at H); obtain ⟨a1, cap1, rfl, hO1⟩ := hR) | refine y13 ?_ | refine y14 ?_ | refine y15 ?_ | refine y16 ?_ | (refine y17 ?_ ?_; all_goals intro h) | (refine y18 ?_ ?_; all_goals intro h) | with_reducible apply OW.app | with_reducible apply OW.app0 | with_reducible apply QW.app | with_reducible apply QW.app0 | with_reducible apply OW.nil | (with_reducible apply QW.nil; intro w hcl; replace H := H.ext hcl; clear hcl) | refine y19 ?_ | with_reducible apply thn_n | with_reducible apply CW.seq | with_reducible apply CW.region | refine y20 mixed ?_ | with_reducible apply CW.block | with_reducible apply CW.ret | with_reducible apply CW.exit | with_reducible apply CW.skip | with_reducible apply thn_r | with_reducible apply thn_e | with_reducible apply blk_n | with_reducible apply blk_r | refine y24 ?_ | refine y25 ?_ | refine y21 ?_ | refine y22 ?_ | fail)
      exact retVF (vs := [_, _]) (M := M) ⟨rdvC sg rfl H.mem (List.Mem.head _) rfl rfl, rdvT rfl, trivial⟩ (H.sub (by repeat (first | exact List.Sublist.refl _ | exact List.nil_sublist _ | apply List.Sublist.cons_cons | apply List.Sublist.cons))) (by rw [e]; exact ⟨_, ⟨a1, cap1, rfl, hO1⟩, rfl⟩)
    · repeat' (first | refine y1 sg ?_ | refine y2 sg ?_ | refine y3 ?_ | refine y4 ?_ | refine y5 sg ?_ | refine y6 sg ?_ | refine y7 sg H ?_ | refine y8 sg H ?_ | (refine y9 H ?_; intro b w H) | (refine y10 sg H ?_; intro b w H) | (refine y11 sg H ?_; intro w H) | refine y12 ?_ | refine y13 ?_ | refine y14 ?_ | refine y15 ?_ | refine y16 ?_ | (refine y17 ?_ ?_; all_goals intro h) | (refine y18 ?_ ?_; all_goals intro h) | with_reducible apply OW.app | with_reducible apply OW.app0 | with_reducible apply QW.app | with_reducible apply QW.app0 | with_reducible apply OW.nil | (with_reducible apply QW.nil; intro w hcl; replace H := H.ext hcl; clear hcl) | refine y19 ?_ | with_reducible apply thn_n | with_reducible apply CW.seq | with_reducible apply CW.region | refine y20 mixed ?_ | with_reducible apply CW.block | with_reducible apply CW.ret | with_reducible apply CW.exit | with_reducible apply CW.skip | with_reducible apply thn_r | with_reducible apply thn_e | with_reducible apply blk_n | with_reducible apply blk_r | refine y24 ?_ | refine y25 ?_ | refine y21 ?_ | refine y22 ?_ | fail)
      refine Again.mk (k + 1) rfl ⟨vsucc (by omega), trivial⟩ ⟨hlt, fun j hj => ?_, H⟩ (by omega)
      by_cases hjk : j = k
      · subst hjk; exact h3
      · exact hk1 j (by omega)
  · have hkn : k = l.length := by have := of_decide_eq_false h; omega
    subst hkn
    have e : getF l id = (Auc.zero, false) := by
      unfold getF getI
      rw [idx_miss hk1, if_pos (by decide)]
    repeat' (first | refine y1 sg ?_ | refine y2 sg ?_ | refine y3 ?_ | refine y4 ?_ | refine y5 sg ?_ | refine y6 sg ?_ | refine y7 sg H ?_ | refine y8 sg H ?_ | (refine y9 H ?_; intro b w H) | (refine y10 sg H ?_; intro b w H) | (refine y11 sg H ?_; intro w H) | refine y12 ?_ | refine y13 ?_ | refine y14 ?_ | refine y15 ?_ | refine y16 ?_ | (refine y17 ?_ ?_; all_goals intro h) | (refine y18 ?_ ?_; all_goals intro h) | with_reducible apply OW.app | with_reducible apply OW.app0 | with_reducible apply QW.app | with_reducible apply QW.app0 | with_reducible apply OW.nil | (with_reducible apply QW.nil; intro w hcl; replace H := H.ext hcl; clear hcl) | refine y19 ?_ | with_reducible apply thn_n | with_reducible apply CW.seq | with_reducible apply CW.region | refine y20 mixed ?_ | with_reducible apply CW.block | with_reducible apply CW.ret | with_reducible apply CW.exit | with_reducible apply CW.skip | with_reducible apply thn_r | with_reducible apply thn_e | with_reducible apply blk_n | with_reducible apply blk_r | refine y24 ?_ | refine y25 ?_ | refine y21 ?_ | refine y22 ?_ | fail)
    exact retVF (vs := [_, _]) (M := []) ⟨rdvC sg rfl H.mem (List.Mem.head _) rfl rfl, rdvT rfl, trivial⟩ (H.sub (List.nil_sublist _)) (by rw [e]; exact ⟨_, ⟨none, 0, rfl, Own.nil _ _ _⟩, rfl⟩)
theorem badAuc_zero {l : List Auc} : badAuc l 0 = !mayF (l.getD 0 default) := by
  unfold badAuc
  cases hm : mayF (l.getD 0 default) with
  | false => simp
  | true =>
    have := within_bd (may_parts hm).1
    simp only [lastOf, Bool.not_true, Bool.or_false]
    exact decide_eq_false (by omega)
set_option maxHeartbeats 2000000 in
theorem c_RMayAll {a : Option Addr} {cap : Nat} (l : List Auc) (ad : Nat → Option Addr × Nat) {F : Frag} (w0 : World) (hF : Mem w0 F) (hs0 : Aucs F a cap l ad) :
    Calls Try.prog 40 [.slice a l.length cap].toArray w0 (Ret (.bool (mayAllF l)) w0) := by
  obtain ⟨⟨hnc, hc, b0, off, cs, T, fr, hs⟩, hbs⟩ := hs0
  refine enter [.tmp 2] Try.func40 rfl Try.ntmps40 rfl rfl ?_
  have H := St.start w0
  repeat' (first | refine y1 sg ?_ | refine y2 sg ?_ | refine y3 ?_ | refine y4 ?_ | refine y5 sg ?_ | refine y6 sg ?_ | refine y7 sg H ?_ | refine y8 sg H ?_ | (refine y9 H ?_; intro b w H) | (refine y10 sg H ?_; intro b w H) | (refine y11 sg H ?_; intro w H) | refine y12 ?_ | refine y13 ?_ | refine y14 ?_ | refine y15 ?_ | refine y16 ?_ | (refine y17 ?_ ?_; all_goals intro h) | (refine y18 ?_ ?_; all_goals intro h) | with_reducible apply OW.app | with_reducible apply OW.app0 | with_reducible apply QW.app | with_reducible apply QW.app0 | with_reducible apply OW.nil | (with_reducible apply QW.nil; intro w hcl; replace H := H.ext hcl; clear hcl) | refine y19 ?_ | with_reducible apply thn_n | with_reducible apply CW.seq | with_reducible apply CW.region | refine y20 mixed ?_ | with_reducible apply CW.block | with_reducible apply CW.ret | with_reducible apply CW.exit | with_reducible apply CW.skip | with_reducible apply thn_r | with_reducible apply thn_e | with_reducible apply blk_n | with_reducible apply blk_r | refine y24 ?_ | refine y25 ?_ | refine y21 ?_ | refine y22 ?_ | fail)
  refine CW.loopI [(2, 33)] (fun k : Nat => [(3, .int .i64 (k : Int))]) (fun k w => k ≤ l.length ∧ (∀ j, j < k → badAuc l j = false) ∧ St w0 [] w) (fun k => l.length - k) 0 ⟨rfl, trivial⟩ ⟨Nat.zero_le _, fun j hj => absurd hj (Nat.not_lt_zero _), H⟩ ?_
  clear H
  rintro k g w ⟨hk, hk1, H⟩
  repeat' (first | refine y1 sg ?_ | refine y2 sg ?_ | refine y3 ?_ | refine y4 ?_ | refine y5 sg ?_ | refine y6 sg ?_ | refine y7 sg H ?_ | refine y8 sg H ?_ | (refine y9 H ?_; intro b w H) | (refine y10 sg H ?_; intro b w H) | (refine y11 sg H ?_; intro w H) | refine y12 ?_ | refine y13 ?_ | refine y14 ?_ | refine y15 ?_ | refine y16 ?_ | (refine y17 ?_ ?_; all_goals intro h) | (refine y18 ?_ ?_; all_goals intro h) | with_reducible apply OW.app | with_reducible apply OW.app0 | with_reducible apply QW.app | with_reducible apply QW.app0 | with_reducible apply OW.nil | (with_reducible apply QW.nil; intro w hcl; replace H := H.ext hcl; clear hcl) | refine y19 ?_ | with_reducible apply thn_n | with_reducible apply CW.seq | with_reducible apply CW.region | refine y20 mixed ?_ | with_reducible apply CW.block | with_reducible apply CW.ret | with_reducible apply CW.exit | with_reducible apply CW.skip | with_reducible apply thn_r | with_reducible apply thn_e | with_reducible apply blk_n | with_reducible apply blk_r | refine y24 ?_ | refine y25 ?_ | refine y21 ?_ | refine y22 ?_ | fail)
  refine CW.cond rfl (fun h => ?_) (fun h => ?_)
  · have hlt : k < l.length := by have := of_decide_eq_true h; omega
    have hno : badAuc l k = true → Value.bool false = Value.bool (mayAllF l) := fun hb => by rw [mayAllF, idx_hit hlt hk1 hb, decide_eq_false (show ¬ ((k : Int) < 0) by omega), Bool.false_and]
    have hyes : badAuc l k = false → ∀ j, j < k + 1 → badAuc l j = false := fun hb j hj => by
      by_cases hjk : j = k
      · rw [hjk]; exact hb
      · exact hk1 j (by omega)
    cases k with
    | zero =>
      have e := badAuc_zero (l := l)
      repeat' (first | refine y1 sg ?_ | refine y2 sg ?_ | refine y3 ?_ | refine y4 ?_ | refine y5 sg ?_ | refine y6 sg ?_ | refine y7 sg H ?_ | refine y8 sg H ?_ | (refine y9 H ?_; intro b w H) | (refine y10 sg H ?_; intro b w H) | (refine y11 sg H ?_; intro w H) | refine y12 ?_ | (refine y40 sg (hs) ?_ ?_ ?_; (omega); (omega)) | (refine y41 sg (hs) ?_ ?_ ?_; (omega); (omega)) | (refine y42 sg (hs) ((H.memF hF)) ?_ ?_; (omega)) | (refine y43 sg (hs) ((H.memF hF)) ?_ ?_; (omega)) | (refine' y30 ent39 ?_ ?_; rotate_left; exact c_RMay (l.getD 0 default) _ (H.memF hF) (hbs 0 hlt); intro w hcl; replace H := H.ext hcl; clear hcl) | (refine' y31 ent39 ?_ ?_; rotate_left; exact (fun _ hcl => c_RMay (l.getD 0 default) _ ((H.ext hcl).memF hF) (hbs 0 hlt))) | refine y13 ?_ | refine y14 ?_ | refine y15 ?_ | refine y16 ?_ | (refine y17 ?_ ?_; all_goals (intro h; try (exfalso; first | (simp at h; done)))) | (refine y18 ?_ ?_; all_goals (intro h; try (exfalso; first | (simp at h; done)))) | with_reducible apply OW.app | with_reducible apply OW.app0 | with_reducible apply QW.app | with_reducible apply QW.app0 | with_reducible apply OW.nil | (with_reducible apply QW.nil; intro w hcl; replace H := H.ext hcl; clear hcl) | refine y19 ?_ | with_reducible apply thn_n | with_reducible apply CW.seq | with_reducible apply CW.region | refine y20 mixed ?_ | with_reducible apply CW.block | with_reducible apply CW.ret | with_reducible apply CW.exit | with_reducible apply CW.skip | with_reducible apply thn_r | with_reducible apply thn_e | with_reducible apply blk_n | with_reducible apply blk_r | refine y24 ?_ | refine y25 ?_ | refine y21 ?_ | refine y22 ?_ | (refine y23 ?_ ?_; all_goals (intro h; try (exfalso; first | (simp at h; done)))) | fail)
      · exact ret1 rfl H.cl (hno (by rw [e]; exact h))
      all_goals exact Again.mk 1 rfl ⟨rfl, trivial⟩ ⟨hlt, hyes (by rw [e]; assumption), H.sub (List.nil_sublist _)⟩ (by omega)
    | succ k =>
      have e : badAuc l (k + 1) = (decide ((l.getD (k + 1) default).id ≤ (l.getD k default).id) || !mayF (l.getD (k + 1) default)) := rfl
      repeat' (first | refine y1 sg ?_ | refine y2 sg ?_ | refine y3 ?_ | refine y4 ?_ | refine y5 sg ?_ | refine y6 sg ?_ | refine y7 sg H ?_ | refine y8 sg H ?_ | (refine y9 H ?_; intro b w H) | (refine y10 sg H ?_; intro b w H) | (refine y11 sg H ?_; intro w H) | refine y12 ?_ | (refine y40 sg (hs) ?_ ?_ ?_; (first | omega | (rw [w64 (by omega) (by omega)]; omega)); (first | omega | (rw [w64 (by omega) (by omega)]; omega))) | (refine y41 sg (hs) ?_ ?_ ?_; (first | omega | (rw [w64 (by omega) (by omega)]; omega)); (first | omega | (rw [w64 (by omega) (by omega)]; omega))) | (refine y42 sg (hs) ((H.memF hF)) ?_ ?_; (omega)) | (refine y43 sg (hs) ((H.memF hF)) ?_ ?_; (omega)) | (refine y44 sg (hs) ((H.memF hF)) ?_ ?_; (omega)) | (refine y45 sg (hs) ((H.memF hF)) ?_ ?_; (omega)) | (refine' y30 ent39 ?_ ?_; rotate_left; exact c_RMay (l.getD (k + 1) default) _ (H.memF hF) (hbs (k + 1) hlt); intro w hcl; replace H := H.ext hcl; clear hcl) | (refine' y31 ent39 ?_ ?_; rotate_left; exact (fun _ hcl => c_RMay (l.getD (k + 1) default) _ ((H.ext hcl).memF hF) (hbs (k + 1) hlt))) | refine y13 ?_ | refine y14 ?_ | refine y15 ?_ | refine y16 ?_ | (refine y17 ?_ ?_; all_goals intro h) | (refine y18 ?_ ?_; all_goals intro h) | with_reducible apply OW.app | with_reducible apply OW.app0 | with_reducible apply QW.app | with_reducible apply QW.app0 | with_reducible apply OW.nil | (with_reducible apply QW.nil; intro w hcl; replace H := H.ext hcl; clear hcl) | refine y19 ?_ | with_reducible apply thn_n | with_reducible apply CW.seq | with_reducible apply CW.region | refine y20 mixed ?_ | with_reducible apply CW.block | with_reducible apply CW.ret | with_reducible apply CW.exit | with_reducible apply CW.skip | with_reducible apply thn_r | with_reducible apply thn_e | with_reducible apply blk_n | with_reducible apply blk_r | refine y24 ?_ | refine y25 ?_ | refine y21 ?_ | refine y22 ?_ | (refine y23 ?_ ?_; all_goals intro h) | fail)
      rotate_left 3
      · have := of_decide_eq_false h; omega
      · exact ret1 rfl H.cl (hno (by rw [e, h, Bool.or_true]))
      · exact ret1 rfl H.cl (hno (by rw [e]; rw [Nat.add_sub_cancel] at h; rw [h, Bool.true_or]))
      · have h1 := ‹(!mayF (l.getD (k + 1) default)) = false›
        exact Again.mk (k + 2) rfl ⟨vsucc (by omega), trivial⟩ ⟨hlt, hyes (by rw [e]; rw [Nat.add_sub_cancel] at h; rw [h, h1, Bool.or_false]), H.sub (List.nil_sublist _)⟩ (by omega)
  · have hkn : k = l.length := by have := of_decide_eq_false h; omega
    subst hkn
    repeat' (first | refine y1 sg ?_ | refine y2 sg ?_ | refine y3 ?_ | refine y4 ?_ | refine y5 sg ?_ | refine y6 sg ?_ | refine y7 sg H ?_ | refine y8 sg H ?_ | (refine y9 H ?_; intro b w H) | (refine y10 sg H ?_; intro b w H) | (refine y11 sg H ?_; intro w H) | refine y12 ?_ | refine y13 ?_ | refine y14 ?_ | refine y15 ?_ | refine y16 ?_ | (refine y17 ?_ ?_; all_goals intro h) | (refine y18 ?_ ?_; all_goals intro h) | with_reducible apply OW.app | with_reducible apply OW.app0 | with_reducible apply QW.app | with_reducible apply QW.app0 | with_reducible apply OW.nil | (with_reducible apply QW.nil; intro w hcl; replace H := H.ext hcl; clear hcl) | refine y19 ?_ | with_reducible apply thn_n | with_reducible apply CW.seq | with_reducible apply CW.region | refine y20 mixed ?_ | with_reducible apply CW.block | with_reducible apply CW.ret | with_reducible apply CW.exit | with_reducible apply CW.skip | with_reducible apply thn_r | with_reducible apply thn_e | with_reducible apply blk_n | with_reducible apply blk_r | refine y24 ?_ | refine y25 ?_ | refine y21 ?_ | refine y22 ?_ | fail)
    exact ret1 rfl H.cl (by rw [mayAllF, idx_miss hk1]; simp)
end Go.Proofs.Ytkcoemikglbomaa
