/- The document's Row and Numbers, walked. -/
import Derived.Test.YtkcoemikglbomaaS9
import Derived.Test.YtkcoemikglbomaaA16
import Derived.Test.YtkcoemikglbomaaExt
set_option linter.unusedSimpArgs false
set_option linter.unusedVariables false
namespace Go.Proofs.Ytkcoemikglbomaa
open Go Go.Sk Go.RowKit
attribute [local irreducible] Go.Calls
/-- The places that are taken, in their row. -/
def RowI (l : List Auc) (clock : Int) (ks : List Nat) : Prop :=
  ks.Nodup ∧ (∀ k ∈ ks, k < l.length ∧ (l.getD k default).fin ≤ clock) ∧ ks.Pairwise (fun a b => ltA (l.getD a default) (l.getD b default)) ∧
    ∀ k ∈ ks, ∀ j, j < l.length → j ∉ ks → (l.getD j default).fin ≤ clock → ltA (l.getD k default) (l.getD j default)
def Best (l : List Auc) (clock : Int) (ks : List Nat) (i : Nat) (at_ : Int) : Prop :=
  (at_ = -1 ∧ ∀ j, j < i → j ∉ ks → ¬ (l.getD j default).fin ≤ clock) ∨
  (∃ k : Nat, at_ = k ∧ k < i ∧ k ∉ ks ∧ (l.getD k default).fin ≤ clock ∧ ∀ j, j < i → j ∉ ks → (l.getD j default).fin ≤ clock → (l.getD k default).fin < (l.getD j default).fin ∨ ((l.getD k default).fin = (l.getD j default).fin ∧ k ≤ j))
theorem Best.none {l : List Auc} {clock : Int} {ks : List Nat} {i : Nat} {a : Int} (h : Best l clock ks i a) (h0 : i ∈ ks ∨ ¬ (l.getD i default).fin ≤ clock) : Best l clock ks (i + 1) a := by
  have key : ∀ j, j < i + 1 → j ∉ ks → (l.getD j default).fin ≤ clock → j < i := fun j g1 g2 g3 => by
    rcases (show j < i ∨ j = i by omega) with g | rfl
    · exact g
    · rcases h0 with h0 | h0
      · exact absurd h0 g2
      · exact absurd g3 h0
  rcases h with ⟨h1, h2⟩ | ⟨k, h1, h2, h3, h4, h5⟩
  · exact .inl ⟨h1, fun j g1 g2 g3 => h2 j (key j g1 g2 g3) g2 g3⟩
  · exact .inr ⟨k, h1, by omega, h3, h4, fun j g1 g2 g3 => h5 j (key j g1 g2 g3) g2 g3⟩
theorem RowI.snoc {l : List Auc} {clock : Int} {ks : List Nat} {k : Nat} (hasc : ∀ i j, i < j → j < l.length → (l.getD i default).id < (l.getD j default).id) (h : RowI l clock ks) (hb : Best l clock ks l.length k) : RowI l clock (ks ++ [k]) ∧ k < l.length := by
  obtain ⟨h1, h2, h3, h4⟩ := h
  rcases hb with ⟨hb, _⟩ | ⟨k', hk, b1, b2, b3, b4⟩
  · omega
  obtain rfl : k = k' := by omega
  refine ⟨⟨?_, ?_, ?_, ?_⟩, b1⟩
  · rw [List.nodup_append]
    exact ⟨h1, by simp, fun a ha b hb => by rw [List.mem_singleton] at hb; subst hb; intro e; subst e; exact b2 ha⟩
  · intro j hj
    rcases List.mem_append.1 hj with hj | hj
    · exact h2 j hj
    · rw [List.mem_singleton] at hj; subst hj; exact ⟨b1, b3⟩
  · rw [List.pairwise_append]
    exact ⟨h3, by simp, fun a ha b hb => by rw [List.mem_singleton] at hb; subst hb; exact h4 a ha _ b1 b2 b3⟩
  · intro a ha j hj hjn hjd
    have hj1 : j ∉ ks := fun hh => hjn (List.mem_append_left _ hh)
    have hj2 : j ≠ k := fun hh => hjn (List.mem_append_right _ (by rw [hh]; exact List.Mem.head _))
    rcases List.mem_append.1 ha with ha | ha
    · exact h4 a ha j hj hj1 hjd
    · rw [List.mem_singleton] at ha
      subst ha
      rcases b4 j hj hj1 hjd with g | ⟨g1, g2⟩
      · exact .inl g
      · exact .inr ⟨g1, hasc _ _ (by omega) hj⟩
theorem nodup_sub_len {ks : List Nat} {n : Nat} (h : ks.Nodup) (hs : ∀ k ∈ ks, k < n) (hl : n ≤ ks.length) : ∀ j, j < n → j ∈ ks := by
  intro j hj
  apply Classical.byContradiction
  intro hn
  have hp : ks.Perm ((List.range n).filter fun k => decide (k ∈ ks)) := (List.perm_ext_iff_of_nodup h ((List.nodup_range).filter _)).2 fun k => by
    rw [List.mem_filter, List.mem_range]
    exact ⟨fun hk => ⟨hs k hk, decide_eq_true hk⟩, fun hk => of_decide_eq_true hk.2⟩
  have h1 := hp.length_eq
  have h2 : ((List.range n).filter fun k => decide (k ∈ ks)).length < (List.range n).length := List.length_filter_lt_length_iff_exists.2 ⟨j, List.mem_range.2 hj, by simpa using hn⟩
  rw [List.length_range] at h2
  omega
theorem RowI.is {l : List Auc} {clock : Int} {ks : List Nat} (hm : mayAllF l = true) (h : RowI l clock ks) (hall : ∀ j, j < l.length → (l.getD j default).fin ≤ clock → j ∈ ks) : IsRow l clock (ks.map fun k => l.getD k default) := by
  obtain ⟨h1, h2, h3, h4⟩ := h
  obtain ⟨_, hmay, _⟩ := mayAll_id hm
  left
  refine ⟨hm, List.pairwise_map.2 h3, ?_⟩
  rw [← filter_range l fun x => dueF x clock]
  refine List.Perm.map _ ?_
  refine (List.perm_ext_iff_of_nodup h1 ((List.nodup_range).filter _)).2 fun j => ?_
  rw [List.mem_filter, List.mem_range]
  constructor
  · intro hj
    exact ⟨(h2 j hj).1, by unfold dueF; rw [hmay j (h2 j hj).1]; simpa using (h2 j hj).2⟩
  · rintro ⟨hj, hd⟩
    refine hall j hj ?_
    unfold dueF at hd
    simp only [Bool.and_eq_true, decide_eq_true_eq] at hd
    exact hd.2
structure RS where
  ks : List Nat
  a : Option Addr
  cap : Nat
  M : Frag
  cs : List Value
def tkn (ks : List Nat) (j : Nat) : List Value := [.bool (decide (j ∈ ks))]
theorem tkn_put {cs : List Value} {n k : Nat} {ks : List Nat} (h : Els cs 1 n (tkn ks)) (hk : k < n) : Els (wr cs (k * 1) [.bool true]) 1 n (tkn (ks ++ [k])) :=
  (h.wr hk rfl).congr fun j _ => by
    unfold tkn
    by_cases hj : j = k
    · simp [hj]
    · simp [hj]
set_option maxRecDepth 20000 in
set_option maxHeartbeats 8000000 in
theorem c_RRow {a : Option Addr} {cap : Nat} (l : List Auc) (ad : Nat → Option Addr × Nat) (clock : Int) {F : Frag} (w0 : World) (hF : Mem w0 F) (hs0 : Aucs F a cap l ad) :
    Calls Try.prog 28 [.slice a l.length cap, .int .i64 clock].toArray w0 (RetF (fun M v => ∃ r a' cap', IsRow l clock r ∧ v = .slice a' r.length cap' ∧ OwnI M a' cap' (r.map (·.id))) w0) := by
  have hs1 := hs0.1
  refine enter [.tmp 4] Try.func28 rfl Try.ntmps28 rfl rfl ?_
  have H := St.start w0
  repeat' (first | refine y1 sg ?_ | refine y2 sg ?_ | refine y3 ?_ | refine y4 ?_ | refine y5 sg ?_ | refine y6 sg ?_ | refine y7 sg H ?_ | refine y8 sg H ?_ | (refine y9 H ?_; intro b w H) | (refine y10 sg H ?_; intro b w H) | (refine y11 sg H ?_; intro w H) | refine y12 ?_ | (refine' y30 ent40 ?_ ?_; rotate_left; exact c_RMayAll l ad _ (H.memF hF) hs0; intro w hcl; replace H := H.ext hcl; clear hcl) | (refine' y31 ent40 ?_ ?_; rotate_left; exact (fun _ hcl => c_RMayAll l ad _ ((H.ext hcl).memF hF) hs0)) | refine y13 ?_ | refine y14 ?_ | refine y15 ?_ | refine y16 ?_ | (refine y17 ?_ ?_; all_goals intro h) | (refine y18 ?_ ?_; all_goals intro h) | with_reducible apply OW.app | with_reducible apply OW.app0 | with_reducible apply QW.app | with_reducible apply QW.app0 | with_reducible apply OW.nil | (with_reducible apply QW.nil; intro w hcl; replace H := H.ext hcl; clear hcl) | refine y19 ?_ | with_reducible apply thn_n | with_reducible apply CW.seq | with_reducible apply CW.region | refine y20 mixed ?_ | with_reducible apply CW.block | with_reducible apply CW.ret | with_reducible apply CW.exit | with_reducible apply CW.skip | with_reducible apply thn_r | with_reducible apply thn_e | with_reducible apply blk_n | with_reducible apply blk_r | refine y24 ?_ | refine y25 ?_ | refine y21 ?_ | refine y22 ?_ | fail)
  refine CW.cond rfl (fun h => ?_) (fun h => ?_)
  · repeat' (first | refine y1 sg ?_ | refine y2 sg ?_ | refine y3 ?_ | refine y4 ?_ | refine y5 sg ?_ | refine y6 sg ?_ | refine y7 sg H ?_ | refine y8 sg H ?_ | (refine y9 H ?_; intro b w H) | (refine y10 sg H ?_; intro b w H) | (refine y11 sg H ?_; intro w H) | refine y12 ?_ | refine y13 ?_ | refine y14 ?_ | refine y15 ?_ | refine y16 ?_ | (refine y17 ?_ ?_; all_goals intro h) | (refine y18 ?_ ?_; all_goals intro h) | with_reducible apply OW.app | with_reducible apply OW.app0 | with_reducible apply QW.app | with_reducible apply QW.app0 | with_reducible apply OW.nil | (with_reducible apply QW.nil; intro w hcl; replace H := H.ext hcl; clear hcl) | refine y19 ?_ | with_reducible apply thn_n | with_reducible apply CW.seq | with_reducible apply CW.region | refine y20 mixed ?_ | with_reducible apply CW.block | with_reducible apply CW.ret | with_reducible apply CW.exit | with_reducible apply CW.skip | with_reducible apply thn_r | with_reducible apply thn_e | with_reducible apply blk_n | with_reducible apply blk_r | refine y24 ?_ | refine y25 ?_ | refine y21 ?_ | refine y22 ?_ | fail)
    exact retVF (vs := [_]) (M := []) ⟨rdvT rfl, trivial⟩ H ⟨[], none, 0, .inr ⟨by simpa using h, rfl⟩, rfl, Own.nil _ _ _⟩
  have hm : mayAllF l = true := by simpa using h
  clear h
  obtain ⟨h32, hmay, hasc⟩ := mayAll_id hm
  obtain ⟨hnc, hcb, b0, off, cs0, T, fr, hs⟩ := hs1
  repeat' (first | refine y1 sg ?_ | refine y2 sg ?_ | refine y3 ?_ | refine y4 ?_ | refine y5 sg ?_ | refine y6 sg ?_ | refine y7 sg H ?_ | refine y8 sg H ?_ | (refine y9 H ?_; intro b w H) | (refine y10 sg H ?_; intro b w H) | (refine y11 sg H ?_; intro w H) | refine y12 ?_ | (refine OX.mkS sg (c := l.length) H ?_ (by omega) rfl rfl ?_; (show _ * 1 ≤ _; omega); intro g cs w hE hcl H) | refine y13 ?_ | refine y14 ?_ | refine y15 ?_ | refine y16 ?_ | (refine y17 ?_ ?_; all_goals intro h) | (refine y18 ?_ ?_; all_goals intro h) | with_reducible apply OW.app | with_reducible apply OW.app0 | with_reducible apply QW.app | with_reducible apply QW.app0 | with_reducible apply OW.nil | (with_reducible apply QW.nil; intro w hcl; replace H := H.ext hcl; clear hcl) | refine y19 ?_ | with_reducible apply thn_n | with_reducible apply CW.seq | with_reducible apply CW.region | refine y20 mixed ?_ | with_reducible apply CW.block | with_reducible apply CW.ret | with_reducible apply CW.exit | with_reducible apply CW.skip | with_reducible apply thn_r | with_reducible apply thn_e | with_reducible apply blk_n | with_reducible apply blk_r | refine y24 ?_ | refine y25 ?_ | refine y21 ?_ | refine y22 ?_ | fail)
  refine CW.loopI [(5, 5), (7, 8), (17, 70)] (fun x : Nat × RS => [(5, .slice x.2.a x.2.ks.length x.2.cap), (17, .int .i64 (x.1 : Int))])
    (fun x w => x.1 ≤ l.length ∧ RowI l clock x.2.ks ∧ (x.2.ks.length = x.1 ∨ ∀ j, j < l.length → (l.getD j default).fin ≤ clock → j ∈ x.2.ks) ∧ Els x.2.cs 1 l.length (tkn x.2.ks) ∧
      Own x.2.M 2 1 x.2.a x.2.ks.length x.2.cap (x.2.ks.map fun k => Value.int .i64 (l.getD k default).id) ∧ St w0 (x.2.M ++ [cb g x.2.cs 4]) w)
    (fun x => l.length - x.1) (0, ⟨[], none, 0, [], cs⟩) ⟨rfl, rfl, trivial⟩ ⟨Nat.zero_le _, ⟨List.nodup_nil, fun k hk => (by cases hk), List.Pairwise.nil, fun k hk => (by cases hk)⟩, .inl rfl, hE, Own.nil _ _ _, H⟩ ?_
  clear H hE hcl
  rintro ⟨i, ks, a1, cap1, M1, cs⟩ gh w ⟨hi, hR, hP, hE, hO, H⟩
  simp only at hi hR hP hE hO H ⊢
  repeat' (first | refine y1 sg ?_ | refine y2 sg ?_ | refine y3 ?_ | refine y4 ?_ | refine y5 sg ?_ | refine y6 sg ?_ | refine y7 sg H ?_ | refine y8 sg H ?_ | (refine y9 H ?_; intro b w H) | (refine y10 sg H ?_; intro b w H) | (refine y11 sg H ?_; intro w H) | refine y12 ?_ | refine y13 ?_ | refine y14 ?_ | refine y15 ?_ | refine y16 ?_ | (refine y17 ?_ ?_; all_goals intro h) | (refine y18 ?_ ?_; all_goals intro h) | with_reducible apply OW.app | with_reducible apply OW.app0 | with_reducible apply QW.app | with_reducible apply QW.app0 | with_reducible apply OW.nil | (with_reducible apply QW.nil; intro w hcl; replace H := H.ext hcl; clear hcl) | refine y19 ?_ | with_reducible apply thn_n | with_reducible apply CW.seq | with_reducible apply CW.region | refine y20 mixed ?_ | with_reducible apply CW.block | with_reducible apply CW.ret | with_reducible apply CW.exit | with_reducible apply CW.skip | with_reducible apply thn_r | with_reducible apply thn_e | with_reducible apply blk_n | with_reducible apply blk_r | refine y24 ?_ | refine y25 ?_ | refine y21 ?_ | refine y22 ?_ | fail)
  refine CW.cond rfl (fun h => ?_) (fun h => ?_)
  · have hlt : i < l.length := by have := of_decide_eq_true h; omega
    clear h
    repeat' (first | refine y1 sg ?_ | refine y2 sg ?_ | refine y3 ?_ | refine y4 ?_ | refine y5 sg ?_ | refine y6 sg ?_ | refine y7 sg H ?_ | refine y8 sg H ?_ | (refine y9 H ?_; intro b w H) | (refine y10 sg H ?_; intro b w H) | (refine y11 sg H ?_; intro w H) | refine y12 ?_ | refine y13 ?_ | refine y14 ?_ | refine y15 ?_ | refine y16 ?_ | (refine y17 ?_ ?_; all_goals intro h) | (refine y18 ?_ ?_; all_goals intro h) | with_reducible apply OW.app | with_reducible apply OW.app0 | with_reducible apply QW.app | with_reducible apply QW.app0 | with_reducible apply OW.nil | (with_reducible apply QW.nil; intro w hcl; replace H := H.ext hcl; clear hcl) | refine y19 ?_ | with_reducible apply thn_n | with_reducible apply CW.seq | with_reducible apply CW.region | refine y20 mixed ?_ | with_reducible apply CW.block | with_reducible apply CW.ret | with_reducible apply CW.exit | with_reducible apply CW.skip | with_reducible apply thn_r | with_reducible apply thn_e | with_reducible apply blk_n | with_reducible apply blk_r | refine y24 ?_ | refine y25 ?_ | refine y21 ?_ | refine y22 ?_ | fail)
    refine CW.loopI [(7, 8), (19, 56)] (fun x : Nat × Int => [(7, .int .i64 x.2), (8, .int .i64 (x.1 : Int))])
      (fun x w => x.1 ≤ l.length ∧ Best l clock ks x.1 x.2 ∧ St w0 (M1 ++ [cb g cs 4]) w) (fun x => l.length - x.1) (0, -1) ⟨rfl, rfl, trivial⟩ ⟨Nat.zero_le _, .inl ⟨rfl, fun j hj => absurd hj (Nat.not_lt_zero _)⟩, H⟩ ?_
    clear H
    rintro ⟨j, at_⟩ gh2 w ⟨hj, hB, H⟩
    simp only at hj hB H ⊢
    have hsT := hE.slb (F := M1 ++ [cb g cs 4]) (T := 4) (g := g) (List.mem_append_right _ (List.Mem.head _))
    repeat' (first | refine y1 sg ?_ | refine y2 sg ?_ | refine y3 ?_ | refine y4 ?_ | refine y5 sg ?_ | refine y6 sg ?_ | refine y7 sg H ?_ | refine y8 sg H ?_ | (refine y9 H ?_; intro b w H) | (refine y10 sg H ?_; intro b w H) | (refine y11 sg H ?_; intro w H) | refine y12 ?_ | refine y13 ?_ | refine y14 ?_ | refine y15 ?_ | refine y16 ?_ | (refine y17 ?_ ?_; all_goals intro h) | (refine y18 ?_ ?_; all_goals intro h) | with_reducible apply OW.app | with_reducible apply OW.app0 | with_reducible apply QW.app | with_reducible apply QW.app0 | with_reducible apply OW.nil | (with_reducible apply QW.nil; intro w hcl; replace H := H.ext hcl; clear hcl) | refine y19 ?_ | with_reducible apply thn_n | with_reducible apply CW.seq | with_reducible apply CW.region | refine y20 mixed ?_ | with_reducible apply CW.block | with_reducible apply CW.ret | with_reducible apply CW.exit | with_reducible apply CW.skip | with_reducible apply thn_r | with_reducible apply thn_e | with_reducible apply blk_n | with_reducible apply blk_r | refine y24 ?_ | refine y25 ?_ | refine y21 ?_ | refine y22 ?_ | fail)
    refine CW.cond rfl (fun h => ?_) (fun h => ?_)
    · have hjl : j < l.length := by have := of_decide_eq_true h; omega
      clear h
      have hgo : ∀ (t : Bool), (t = true → j ∉ ks ∧ (l.getD j default).fin ≤ clock ∧ ((at_ = -1) ∨ ∃ k : Nat, at_ = k ∧ (l.getD j default).fin < (l.getD k default).fin)) → Best l clock ks j at_ → t = true → Best l clock ks (j + 1) j := fun t ht hb h => by
        obtain ⟨t1, t2, t3⟩ := ht h
        right
        refine ⟨j, rfl, Nat.lt_succ_self j, t1, t2, fun q g1 g2 g3 => ?_⟩
        rcases (show q = j ∨ q < j by omega) with rfl | g4
        · exact .inr ⟨rfl, Nat.le_refl _⟩
        · rcases hb with ⟨_, hb⟩ | ⟨k, hb0, hb1, hb2, hb3, hb4⟩
          · exact absurd g3 (hb q g4 g2)
          · rcases t3 with t3 | ⟨k', t3, t4⟩
            · omega
            · obtain rfl : k = k' := by omega
              left
              rcases hb4 q g4 g2 g3 with g | ⟨g, _⟩ <;> omega
      have hB0 := hB
      rcases hB with ⟨rfl, hB1⟩ | ⟨k, rfl, hB1, hB2, hB3, hB4⟩
      · repeat' (first | refine y1 sg ?_ | refine y2 sg ?_ | refine y3 ?_ | refine y4 ?_ | refine y5 sg ?_ | refine y6 sg ?_ | refine y7 sg H ?_ | refine y8 sg H ?_ | (refine y9 H ?_; intro b w H) | (refine y10 sg H ?_; intro b w H) | (refine y11 sg H ?_; intro w H) | refine y12 ?_ | (refine y40 sg (hsT) ?_ ?_ ?_; (omega); (omega)) | (refine y41 sg (hsT) ?_ ?_ ?_; (omega); (omega)) | (refine y46 sg (hsT) (H.mem) ?_ ?_; (omega)) | (refine y47 sg (hsT) (H.mem) ?_ ?_; (omega)) | (refine y40 sg (hs) ?_ ?_ ?_; (omega); (omega)) | (refine y41 sg (hs) ?_ ?_ ?_; (omega); (omega)) | (refine y44 sg (hs) ((H.memF hF)) ?_ ?_; (omega)) | (refine y45 sg (hs) ((H.memF hF)) ?_ ?_; (omega)) | refine y13 ?_ | refine y14 ?_ | refine y15 ?_ | refine y16 ?_ | (refine y17 ?_ ?_; all_goals intro h) | (refine y18 ?_ ?_; all_goals intro h) | with_reducible apply OW.app | with_reducible apply OW.app0 | with_reducible apply QW.app | with_reducible apply QW.app0 | with_reducible apply OW.nil | (with_reducible apply QW.nil; intro w hcl; replace H := H.ext hcl; clear hcl) | refine y19 ?_ | with_reducible apply thn_n | with_reducible apply CW.seq | with_reducible apply CW.region | refine y20 mixed ?_ | with_reducible apply CW.block | with_reducible apply CW.ret | with_reducible apply CW.exit | with_reducible apply CW.skip | with_reducible apply thn_r | with_reducible apply thn_e | with_reducible apply blk_n | with_reducible apply blk_r | refine y24 ?_ | refine y25 ?_ | refine y21 ?_ | refine y22 ?_ | (refine y23 ?_ ?_; all_goals intro h) | fail)
        · rename_i h0
          exact Again.mk (j + 1, (j : Int)) rfl ⟨rfl, vsucc (by omega), trivial⟩ ⟨hjl, hgo true (fun _ => ⟨by simpa using h0, of_decide_eq_true h, .inl rfl⟩) hB0 rfl, H⟩ (by show l.length - (j + 1) < l.length - j; omega)
        · exact Again.mk (j + 1, _) rfl ⟨rfl, vsucc (by omega), trivial⟩ ⟨hjl, hB0.none (.inr (of_decide_eq_false h)), H⟩ (by show l.length - (j + 1) < l.length - j; omega)
        · exact Again.mk (j + 1, _) rfl ⟨rfl, vsucc (by omega), trivial⟩ ⟨hjl, hB0.none (.inl (by simpa using h)), H⟩ (by show l.length - (j + 1) < l.length - j; omega)
      · have hk0 : decide ((k : Int) < 0) = false := decide_eq_false (by omega)
        repeat' (first | refine y1 sg ?_ | refine y2 sg ?_ | refine y3 ?_ | refine y4 ?_ | refine y5 sg ?_ | refine y6 sg ?_ | refine y7 sg H ?_ | refine y8 sg H ?_ | (refine y9 H ?_; intro b w H) | (refine y10 sg H ?_; intro b w H) | (refine y11 sg H ?_; intro w H) | refine y12 ?_ | (refine y40 sg (hsT) ?_ ?_ ?_; (omega); (omega)) | (refine y41 sg (hsT) ?_ ?_ ?_; (omega); (omega)) | (refine y46 sg (hsT) (H.mem) ?_ ?_; (omega)) | (refine y47 sg (hsT) (H.mem) ?_ ?_; (omega)) | (refine y40 sg (hs) ?_ ?_ ?_; (omega); (omega)) | (refine y41 sg (hs) ?_ ?_ ?_; (omega); (omega)) | (refine y44 sg (hs) ((H.memF hF)) ?_ ?_; (omega)) | (refine y45 sg (hs) ((H.memF hF)) ?_ ?_; (omega)) | refine y13 ?_ | refine y14 ?_ | refine y15 ?_ | refine y16 ?_ | (refine y17 ?_ ?_; all_goals (intro h; try (exfalso; first | ((rw [hk0] at h; cases h); done)))) | (refine y18 ?_ ?_; all_goals (intro h; try (exfalso; first | ((rw [hk0] at h; cases h); done)))) | with_reducible apply OW.app | with_reducible apply OW.app0 | with_reducible apply QW.app | with_reducible apply QW.app0 | with_reducible apply OW.nil | (with_reducible apply QW.nil; intro w hcl; replace H := H.ext hcl; clear hcl) | refine y19 ?_ | with_reducible apply thn_n | with_reducible apply CW.seq | with_reducible apply CW.region | refine y20 mixed ?_ | with_reducible apply CW.block | with_reducible apply CW.ret | with_reducible apply CW.exit | with_reducible apply CW.skip | with_reducible apply thn_r | with_reducible apply thn_e | with_reducible apply blk_n | with_reducible apply blk_r | refine y24 ?_ | refine y25 ?_ | refine y21 ?_ | refine y22 ?_ | (refine y23 ?_ ?_; all_goals (intro h; try (exfalso; first | ((rw [hk0] at h; cases h); done)))) | fail)
        · rename_i h1 h0
          exact Again.mk (j + 1, (j : Int)) rfl ⟨rfl, vsucc (by omega), trivial⟩ ⟨hjl, hgo true (fun _ => ⟨by simpa using h1, of_decide_eq_true h0, .inr ⟨k, rfl, of_decide_eq_true h⟩⟩) hB0 rfl, H⟩ (by show l.length - (j + 1) < l.length - j; omega)
        · rename_i h1 h0
          refine Again.mk (j + 1, (k : Int)) rfl ⟨rfl, vsucc (by omega), trivial⟩ ⟨hjl, .inr ⟨k, rfl, by omega, hB2, hB3, fun q g1 g2 g3 => ?_⟩, H⟩ (by show l.length - (j + 1) < l.length - j; omega)
          rcases (show q < j ∨ q = j by have : q < j + 1 := g1; omega) with g | rfl
          · exact hB4 q g g2 g3
          · have := of_decide_eq_false h
            rcases (show (l.getD k default).fin < (l.getD q default).fin ∨ (l.getD k default).fin = (l.getD q default).fin by omega) with g | g
            · exact .inl g
            · exact .inr ⟨g, by omega⟩
        · exact Again.mk (j + 1, _) rfl ⟨rfl, vsucc (by omega), trivial⟩ ⟨hjl, hB0.none (.inr (of_decide_eq_false h)), H⟩ (by show l.length - (j + 1) < l.length - j; omega)
        · exact Again.mk (j + 1, _) rfl ⟨rfl, vsucc (by omega), trivial⟩ ⟨hjl, hB0.none (.inl (by simpa using h)), H⟩ (by show l.length - (j + 1) < l.length - j; omega)
    · obtain rfl : j = l.length := by have := of_decide_eq_false h; omega
      clear h
      have hB0 := hB
      rcases hB with ⟨rfl, hB1⟩ | ⟨k, rfl, hB1, hB2, hB3, hB4⟩
      · repeat' (first | refine y1 sg ?_ | refine y2 sg ?_ | refine y3 ?_ | refine y4 ?_ | refine y5 sg ?_ | refine y6 sg ?_ | refine y7 sg H ?_ | refine y8 sg H ?_ | (refine y9 H ?_; intro b w H) | (refine y10 sg H ?_; intro b w H) | (refine y11 sg H ?_; intro w H) | refine y12 ?_ | refine y13 ?_ | refine y14 ?_ | refine y15 ?_ | refine y16 ?_ | (refine y17 ?_ ?_; all_goals intro h) | (refine y18 ?_ ?_; all_goals intro h) | with_reducible apply OW.app | with_reducible apply OW.app0 | with_reducible apply QW.app | with_reducible apply QW.app0 | with_reducible apply OW.nil | (with_reducible apply QW.nil; intro w hcl; replace H := H.ext hcl; clear hcl) | refine y19 ?_ | with_reducible apply thn_n | with_reducible apply CW.seq | with_reducible apply CW.region | refine y20 mixed ?_ | with_reducible apply CW.block | with_reducible apply CW.ret | with_reducible apply CW.exit | with_reducible apply CW.skip | with_reducible apply thn_r | with_reducible apply thn_e | with_reducible apply blk_n | with_reducible apply blk_r | refine y24 ?_ | refine y25 ?_ | refine y21 ?_ | refine y22 ?_ | fail)
        exact Again.mk2 (i + 1, ⟨ks, a1, cap1, M1, cs⟩) rfl ⟨rfl, vsucc (by omega), trivial⟩ ⟨hlt, hR, .inr fun q g1 g2 => Classical.byContradiction fun hn => hB1 q g1 hn g2, hE, hO, H⟩ (by show l.length - (i + 1) < l.length - i; omega)
      · have hkl : ks.length = i := by
          rcases hP with hP | hP
          · exact hP
          · exact absurd (hP k hB1 hB3) hB2
        replace H := H.perm List.perm_append_comm
        have hk0 : decide ((k : Int) ≥ 0) = true := decide_eq_true (by omega)
        obtain ⟨hR2, _⟩ := hR.snoc hasc hB0
        have hE2 := tkn_put hE hB1
        have hfit : 0 + k * 1 + 1 ≤ cs.length := by have := (hE k hB1).1; omega
        repeat' (first | refine y1 sg ?_ | refine y2 sg ?_ | refine y3 ?_ | refine y4 ?_ | refine y5 sg ?_ | refine y6 sg ?_ | refine y7 sg H ?_ | refine y8 sg H ?_ | (refine y9 H ?_; intro b w H) | (refine y10 sg H ?_; intro b w H) | (refine y11 sg H ?_; intro w H) | refine y12 ?_ | (refine y40 sg (hsT) ?_ ?_ ?_; (omega); (omega)) | (refine y41 sg (hsT) ?_ ?_ ?_; (omega); (omega)) | (refine OX.storeX sg (v := .bool true) (vs := [.bool true]) H rfl rfl rfl rfl rfl rfl rfl Up.here hfit (by intro u hu; rw [List.mem_singleton] at hu; subst hu; rfl) ?_; intro w H) | (refine y40 sg (hs) ?_ ?_ ?_; (omega); (omega)) | (refine y41 sg (hs) ?_ ?_ ?_; (omega); (omega)) | (refine y44 sg (hs) ((H.memF hF)) ?_ ?_; (omega)) | (refine y45 sg (hs) ((H.memF hF)) ?_ ?_; (omega)) | ((with_reducible apply OX.buildS sg H); exact rfl; exact rfl; exact rfl; exact rfl; exact rfl; exact rfl; exact rfl; exact rfl; exact rfl; exact rfl; intro b w H _) | (refine OX.append sg 1 8 (M := M1) (G := [_, _]) (H.perm (List.perm_append_comm (l₁ := [_, _]) (l₂ := M1))) rfl rfl rfl rfl rfl rfl rfl rfl rfl rfl rfl hO (Src.whole H.mem (List.Mem.head _)) rfl (by intro u hu; simp only [List.mem_cons, List.not_mem_nil, or_false] at hu; subst hu; rfl) (by unfold maxLen; omega) (by omega) ?_; intro a2 cap2 M2 w hO2 H2) | refine y13 ?_ | refine y14 ?_ | refine y15 ?_ | refine y16 ?_ | (refine y17 ?_ ?_; all_goals (intro h; try (exfalso; first | (rw [hk0] at h; cases h; done)))) | (refine y18 ?_ ?_; all_goals (intro h; try (exfalso; first | (rw [hk0] at h; cases h; done)))) | with_reducible apply OW.app | with_reducible apply OW.app0 | with_reducible apply QW.app | with_reducible apply QW.app0 | with_reducible apply OW.nil | (with_reducible apply QW.nil; intro w hcl; replace H := H.ext hcl; clear hcl) | refine y19 ?_ | with_reducible apply thn_n | with_reducible apply CW.seq | with_reducible apply CW.region | refine y20 mixed ?_ | with_reducible apply CW.block | with_reducible apply CW.ret | with_reducible apply CW.exit | with_reducible apply CW.skip | with_reducible apply thn_r | with_reducible apply thn_e | with_reducible apply blk_n | with_reducible apply blk_r | refine y24 ?_ | refine y25 ?_ | refine y21 ?_ | refine y22 ?_ | (refine y23 ?_ ?_; all_goals (intro h; try (exfalso; first | (rw [hk0] at h; cases h; done)))) | fail)
        refine Again.mk2 (i + 1, ⟨ks ++ [k], a2, cap2, M2, _⟩) rfl ⟨?_, vsucc (by omega), trivial⟩ ⟨hlt, hR2, .inl ?_, ?_, ?_, H2.sub (List.Sublist.append (List.Sublist.refl _) (List.Sublist.cons _ (List.Sublist.refl _)))⟩ (by show l.length - (i + 1) < l.length - i; omega)
        · show _ = Value.slice a2 (ks ++ [k]).length cap2
          rw [List.length_append]; rfl
        · show (ks ++ [k]).length = i + 1
          rw [List.length_append, hkl]; rfl
        · rw [Nat.zero_add]; exact hE2
        · show Own M2 _ 1 a2 (ks ++ [k]).length cap2 ((ks ++ [k]).map _)
          rw [List.length_append, List.map_append]
          exact hO2
  · obtain rfl : i = l.length := by have := of_decide_eq_false h; omega
    have hall : ∀ j, j < l.length → (l.getD j default).fin ≤ clock → j ∈ ks := by
      rcases hP with hP | hP
      · exact fun j hj _ => nodup_sub_len hR.1 (fun k hk => (hR.2.1 k hk).1) (by omega) j hj
      · exact hP
    repeat' (first | refine y1 sg ?_ | refine y2 sg ?_ | refine y3 ?_ | refine y4 ?_ | refine y5 sg ?_ | refine y6 sg ?_ | refine y7 sg H ?_ | refine y8 sg H ?_ | (refine y9 H ?_; intro b w H) | (refine y10 sg H ?_; intro b w H) | (refine y11 sg H ?_; intro w H) | refine y12 ?_ | refine y13 ?_ | refine y14 ?_ | refine y15 ?_ | refine y16 ?_ | (refine y17 ?_ ?_; all_goals intro h) | (refine y18 ?_ ?_; all_goals intro h) | with_reducible apply OW.app | with_reducible apply OW.app0 | with_reducible apply QW.app | with_reducible apply QW.app0 | with_reducible apply OW.nil | (with_reducible apply QW.nil; intro w hcl; replace H := H.ext hcl; clear hcl) | refine y19 ?_ | with_reducible apply thn_n | with_reducible apply CW.seq | with_reducible apply CW.region | refine y20 mixed ?_ | with_reducible apply CW.block | with_reducible apply CW.ret | with_reducible apply CW.exit | with_reducible apply CW.skip | with_reducible apply thn_r | with_reducible apply thn_e | with_reducible apply blk_n | with_reducible apply blk_r | refine y24 ?_ | refine y25 ?_ | refine y21 ?_ | refine y22 ?_ | fail)
    refine retVF (vs := [_]) (M := M1) ⟨rdvT rfl, trivial⟩ (H.sub (List.sublist_append_left _ _)) ⟨_, a1, cap1, hR.is hm hall, by rw [List.length_map]; rfl, ?_⟩
    unfold OwnI
    rw [List.length_map, List.length_map, List.map_map, List.map_map]
    exact hO
/-- Numbers that are read. -/
def nel (l : List Int) (j : Nat) : List Value := [.int .i64 (l.getD j 0)]
def Nums (F : Frag) (a : Option Addr) (cap : Nat) (l : List Int) : Prop := SlA F 1 a l.length cap (nel l)
theorem nums_flat (l : List Int) : (List.range l.length).flatMap (nel l) = l.map fun i => Value.int .i64 i := by
  have h : (List.range l.length).map (fun j => l.getD j 0) = l := by
    apply List.ext_getElem
    · simp
    · intro i h1 h2
      simp at h1
      simp [h1]
  conv => rhs; rw [← h, List.map_map]
  rw [List.flatMap_def]
  unfold nel
  generalize List.range l.length = q
  induction q with
  | nil => rfl
  | cons x t ih => simp only [List.map_cons, List.flatten_cons, ih]; rfl
theorem OwnI.nums {M F : Frag} {a : Option Addr} {cap : Nat} {l : List Int} (h : OwnI M a cap l) (hM : M ⊆ F) (hn : l.length ≤ 140737488355328) : Nums F a cap l := by
  unfold OwnI at h
  rw [← nums_flat] at h
  exact h.sl hM (fun _ _ => rfl) hn
set_option maxHeartbeats 4000000 in
theorem c_Numbers {a a' : Option Addr} {cap cap' : Nat} (l l' : List Int) {F : Frag} (w0 : World) (hF : Mem w0 F) (hN : Nums F a cap l) (hN' : Nums F a' cap' l') :
    Calls Try.prog 30 [.slice a l.length cap, .slice a' l'.length cap'].toArray w0 (Ret (.bool (decide (l = l'))) w0) := by
  obtain ⟨hnc, hcb, b0, off, cs, T, fr, hs⟩ := hN
  obtain ⟨hnc', hcb', b0', off', cs', T', fr', hs'⟩ := hN'
  refine enter [.tmp 4] Try.func30 rfl Try.ntmps30 rfl rfl ?_
  have H := St.start w0
  repeat' (first | refine y1 sg ?_ | refine y2 sg ?_ | refine y3 ?_ | refine y4 ?_ | refine y5 sg ?_ | refine y6 sg ?_ | refine y7 sg H ?_ | refine y8 sg H ?_ | (refine y9 H ?_; intro b w H) | (refine y10 sg H ?_; intro b w H) | (refine y11 sg H ?_; intro w H) | refine y12 ?_ | refine y13 ?_ | refine y14 ?_ | refine y15 ?_ | refine y16 ?_ | (refine y17 ?_ ?_; all_goals intro h) | (refine y18 ?_ ?_; all_goals intro h) | with_reducible apply OW.app | with_reducible apply OW.app0 | with_reducible apply QW.app | with_reducible apply QW.app0 | with_reducible apply OW.nil | (with_reducible apply QW.nil; intro w hcl; replace H := H.ext hcl; clear hcl) | refine y19 ?_ | with_reducible apply thn_n | with_reducible apply CW.seq | with_reducible apply CW.region | refine y20 mixed ?_ | with_reducible apply CW.block | with_reducible apply CW.ret | with_reducible apply CW.exit | with_reducible apply CW.skip | with_reducible apply thn_r | with_reducible apply thn_e | with_reducible apply blk_n | with_reducible apply blk_r | refine y24 ?_ | refine y25 ?_ | refine y21 ?_ | refine y22 ?_ | fail)
  refine CW.cond rfl (fun h => ?_) (fun h => ?_)
  · repeat' (first | refine y1 sg ?_ | refine y2 sg ?_ | refine y3 ?_ | refine y4 ?_ | refine y5 sg ?_ | refine y6 sg ?_ | refine y7 sg H ?_ | refine y8 sg H ?_ | (refine y9 H ?_; intro b w H) | (refine y10 sg H ?_; intro b w H) | (refine y11 sg H ?_; intro w H) | refine y12 ?_ | refine y13 ?_ | refine y14 ?_ | refine y15 ?_ | refine y16 ?_ | (refine y17 ?_ ?_; all_goals intro h) | (refine y18 ?_ ?_; all_goals intro h) | with_reducible apply OW.app | with_reducible apply OW.app0 | with_reducible apply QW.app | with_reducible apply QW.app0 | with_reducible apply OW.nil | (with_reducible apply QW.nil; intro w hcl; replace H := H.ext hcl; clear hcl) | refine y19 ?_ | with_reducible apply thn_n | with_reducible apply CW.seq | with_reducible apply CW.region | refine y20 mixed ?_ | with_reducible apply CW.block | with_reducible apply CW.ret | with_reducible apply CW.exit | with_reducible apply CW.skip | with_reducible apply thn_r | with_reducible apply thn_e | with_reducible apply blk_n | with_reducible apply blk_r | refine y24 ?_ | refine y25 ?_ | refine y21 ?_ | refine y22 ?_ | fail)
    have hne : l ≠ l' := by rintro rfl; simp at h
    exact ret1 rfl H.cl (by simp [hne])
  have hlen : l.length = l'.length := by have : (l.length : Int) = l'.length := by simpa using h
                                         omega
  clear h
  repeat' (first | refine y1 sg ?_ | refine y2 sg ?_ | refine y3 ?_ | refine y4 ?_ | refine y5 sg ?_ | refine y6 sg ?_ | refine y7 sg H ?_ | refine y8 sg H ?_ | (refine y9 H ?_; intro b w H) | (refine y10 sg H ?_; intro b w H) | (refine y11 sg H ?_; intro w H) | refine y12 ?_ | refine y13 ?_ | refine y14 ?_ | refine y15 ?_ | refine y16 ?_ | (refine y17 ?_ ?_; all_goals intro h) | (refine y18 ?_ ?_; all_goals intro h) | with_reducible apply OW.app | with_reducible apply OW.app0 | with_reducible apply QW.app | with_reducible apply QW.app0 | with_reducible apply OW.nil | (with_reducible apply QW.nil; intro w hcl; replace H := H.ext hcl; clear hcl) | refine y19 ?_ | with_reducible apply thn_n | with_reducible apply CW.seq | with_reducible apply CW.region | refine y20 mixed ?_ | with_reducible apply CW.block | with_reducible apply CW.ret | with_reducible apply CW.exit | with_reducible apply CW.skip | with_reducible apply thn_r | with_reducible apply thn_e | with_reducible apply blk_n | with_reducible apply blk_r | refine y24 ?_ | refine y25 ?_ | refine y21 ?_ | refine y22 ?_ | fail)
  refine CW.loopI [(4, 5), (11, 25)] (fun k : Nat => [(5, .int .i64 (k : Int))]) (fun k w => k ≤ l.length ∧ (∀ j, j < k → l.getD j 0 = l'.getD j 0) ∧ St w0 [] w) (fun k => l.length - k) 0 ⟨rfl, trivial⟩ ⟨Nat.zero_le _, fun j hj => absurd hj (Nat.not_lt_zero _), H⟩ ?_
  clear H
  rintro k gh w ⟨hk, he, H⟩
  repeat' (first | refine y1 sg ?_ | refine y2 sg ?_ | refine y3 ?_ | refine y4 ?_ | refine y5 sg ?_ | refine y6 sg ?_ | refine y7 sg H ?_ | refine y8 sg H ?_ | (refine y9 H ?_; intro b w H) | (refine y10 sg H ?_; intro b w H) | (refine y11 sg H ?_; intro w H) | refine y12 ?_ | refine y13 ?_ | refine y14 ?_ | refine y15 ?_ | refine y16 ?_ | (refine y17 ?_ ?_; all_goals intro h) | (refine y18 ?_ ?_; all_goals intro h) | with_reducible apply OW.app | with_reducible apply OW.app0 | with_reducible apply QW.app | with_reducible apply QW.app0 | with_reducible apply OW.nil | (with_reducible apply QW.nil; intro w hcl; replace H := H.ext hcl; clear hcl) | refine y19 ?_ | with_reducible apply thn_n | with_reducible apply CW.seq | with_reducible apply CW.region | refine y20 mixed ?_ | with_reducible apply CW.block | with_reducible apply CW.ret | with_reducible apply CW.exit | with_reducible apply CW.skip | with_reducible apply thn_r | with_reducible apply thn_e | with_reducible apply blk_n | with_reducible apply blk_r | refine y24 ?_ | refine y25 ?_ | refine y21 ?_ | refine y22 ?_ | fail)
  refine CW.cond rfl (fun h => ?_) (fun h => ?_)
  · have hlt : k < l.length := by have := of_decide_eq_true h; omega
    repeat' (first | refine y1 sg ?_ | refine y2 sg ?_ | refine y3 ?_ | refine y4 ?_ | refine y5 sg ?_ | refine y6 sg ?_ | refine y7 sg H ?_ | refine y8 sg H ?_ | (refine y9 H ?_; intro b w H) | (refine y10 sg H ?_; intro b w H) | (refine y11 sg H ?_; intro w H) | refine y12 ?_ | (refine y40 sg (hs) ?_ ?_ ?_; (omega); (omega)) | (refine y41 sg (hs) ?_ ?_ ?_; (omega); (omega)) | (refine y40 sg (hs') ?_ ?_ ?_; (omega); (omega)) | (refine y41 sg (hs') ?_ ?_ ?_; (omega); (omega)) | (refine y46 sg (hs) ((H.memF hF)) ?_ ?_; (omega)) | (refine y47 sg (hs) ((H.memF hF)) ?_ ?_; (omega)) | (refine y46 sg (hs') ((H.memF hF)) ?_ ?_; (omega)) | (refine y47 sg (hs') ((H.memF hF)) ?_ ?_; (omega)) | refine y13 ?_ | refine y14 ?_ | refine y15 ?_ | refine y16 ?_ | (refine y17 ?_ ?_; all_goals intro h) | (refine y18 ?_ ?_; all_goals intro h) | with_reducible apply OW.app | with_reducible apply OW.app0 | with_reducible apply QW.app | with_reducible apply QW.app0 | with_reducible apply OW.nil | (with_reducible apply QW.nil; intro w hcl; replace H := H.ext hcl; clear hcl) | refine y19 ?_ | with_reducible apply thn_n | with_reducible apply CW.seq | with_reducible apply CW.region | refine y20 mixed ?_ | with_reducible apply CW.block | with_reducible apply CW.ret | with_reducible apply CW.exit | with_reducible apply CW.skip | with_reducible apply thn_r | with_reducible apply thn_e | with_reducible apply blk_n | with_reducible apply blk_r | refine y24 ?_ | refine y25 ?_ | refine y21 ?_ | refine y22 ?_ | fail)
    refine CW.cond rfl (fun h2 => ?_) (fun h2 => ?_)
    · repeat' (first | refine y1 sg ?_ | refine y2 sg ?_ | refine y3 ?_ | refine y4 ?_ | refine y5 sg ?_ | refine y6 sg ?_ | refine y7 sg H ?_ | refine y8 sg H ?_ | (refine y9 H ?_; intro b w H) | (refine y10 sg H ?_; intro b w H) | (refine y11 sg H ?_; intro w H) | refine y12 ?_ | refine y13 ?_ | refine y14 ?_ | refine y15 ?_ | refine y16 ?_ | (refine y17 ?_ ?_; all_goals intro h) | (refine y18 ?_ ?_; all_goals intro h) | with_reducible apply OW.app | with_reducible apply OW.app0 | with_reducible apply QW.app | with_reducible apply QW.app0 | with_reducible apply OW.nil | (with_reducible apply QW.nil; intro w hcl; replace H := H.ext hcl; clear hcl) | refine y19 ?_ | with_reducible apply thn_n | with_reducible apply CW.seq | with_reducible apply CW.region | refine y20 mixed ?_ | with_reducible apply CW.block | with_reducible apply CW.ret | with_reducible apply CW.exit | with_reducible apply CW.skip | with_reducible apply thn_r | with_reducible apply thn_e | with_reducible apply blk_n | with_reducible apply blk_r | refine y24 ?_ | refine y25 ?_ | refine y21 ?_ | refine y22 ?_ | fail)
      have hne : l ≠ l' := by rintro rfl; simp at h2
      exact ret1 rfl H.cl (by simp [hne])
    · repeat' (first | refine y1 sg ?_ | refine y2 sg ?_ | refine y3 ?_ | refine y4 ?_ | refine y5 sg ?_ | refine y6 sg ?_ | refine y7 sg H ?_ | refine y8 sg H ?_ | (refine y9 H ?_; intro b w H) | (refine y10 sg H ?_; intro b w H) | (refine y11 sg H ?_; intro w H) | refine y12 ?_ | refine y13 ?_ | refine y14 ?_ | refine y15 ?_ | refine y16 ?_ | (refine y17 ?_ ?_; all_goals intro h) | (refine y18 ?_ ?_; all_goals intro h) | with_reducible apply OW.app | with_reducible apply OW.app0 | with_reducible apply QW.app | with_reducible apply QW.app0 | with_reducible apply OW.nil | (with_reducible apply QW.nil; intro w hcl; replace H := H.ext hcl; clear hcl) | refine y19 ?_ | with_reducible apply thn_n | with_reducible apply CW.seq | with_reducible apply CW.region | refine y20 mixed ?_ | with_reducible apply CW.block | with_reducible apply CW.ret | with_reducible apply CW.exit | with_reducible apply CW.skip | with_reducible apply thn_r | with_reducible apply thn_e | with_reducible apply blk_n | with_reducible apply blk_r | refine y24 ?_ | refine y25 ?_ | refine y21 ?_ | refine y22 ?_ | fail)
      refine Again.mk (k + 1) rfl ⟨vsucc (by omega), trivial⟩ ⟨hlt, fun j hj => ?_, H⟩ (by omega)
      rcases (show j < k ∨ j = k by omega) with g | rfl
      · exact he j g
      · simpa using h2
  · obtain rfl : k = l.length := by have := of_decide_eq_false h; omega
    repeat' (first | refine y1 sg ?_ | refine y2 sg ?_ | refine y3 ?_ | refine y4 ?_ | refine y5 sg ?_ | refine y6 sg ?_ | refine y7 sg H ?_ | refine y8 sg H ?_ | (refine y9 H ?_; intro b w H) | (refine y10 sg H ?_; intro b w H) | (refine y11 sg H ?_; intro w H) | refine y12 ?_ | refine y13 ?_ | refine y14 ?_ | refine y15 ?_ | refine y16 ?_ | (refine y17 ?_ ?_; all_goals intro h) | (refine y18 ?_ ?_; all_goals intro h) | with_reducible apply OW.app | with_reducible apply OW.app0 | with_reducible apply QW.app | with_reducible apply QW.app0 | with_reducible apply OW.nil | (with_reducible apply QW.nil; intro w hcl; replace H := H.ext hcl; clear hcl) | refine y19 ?_ | with_reducible apply thn_n | with_reducible apply CW.seq | with_reducible apply CW.region | refine y20 mixed ?_ | with_reducible apply CW.block | with_reducible apply CW.ret | with_reducible apply CW.exit | with_reducible apply CW.skip | with_reducible apply thn_r | with_reducible apply thn_e | with_reducible apply blk_n | with_reducible apply blk_r | refine y24 ?_ | refine y25 ?_ | refine y21 ?_ | refine y22 ?_ | fail)
    have : l = l' := by
      apply List.ext_getElem hlen
      intro i g1 g2
      have := he i g1
      simpa [List.getD_eq_getElem?_getD, g1, g2] using this
    exact ret1 rfl H.cl (by simp [this])
end Go.Proofs.Ytkcoemikglbomaa
