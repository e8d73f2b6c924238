/- The document's answer to the auction, walked: Own, Top, Winner, Least, Due, Same, Numbers. -/
import Derived.Test.YtkcoemikglbomaaA10
set_option linter.unusedSimpArgs false
set_option linter.unusedVariables false
namespace Go.Proofs.Ytkcoemikglbomaa
open Go Go.Sk Go.RowKit
theorem flat_len {el : Nat → List Value} {size n : Nat} (hel : ∀ j, j < n → (el j).length = size) : ((List.range n).flatMap el).length = n * size := by
  induction n with
  | zero => simp
  | succ n ih => rw [List.range_succ, List.flatMap_append, List.length_append, ih (fun j hj => hel j (by omega)), List.flatMap_singleton, hel n (by omega), Nat.succ_mul]
theorem flat_at {size n b off : Nat} {a : Option Addr} {cs : List Value} {T : TypeId} {fr : Nat × Nat} {F : Frag} {el : Nat → List Value} (hs : SlB F size a n b off cs T fr el) (hel : ∀ j, j < n → (el j).length = size) :
    ∀ m, m ≤ n → ∀ j u, ((List.range m).flatMap el)[j]? = some u → cs[off + j]? = some u := by
  intro m
  induction m with
  | zero => intro _ j u hj; cases hj
  | succ m ih =>
    intro hm j u hj
    have hlen : ((List.range m).flatMap el).length = m * size := flat_len fun j hj => hel j (by omega)
    rw [List.range_succ, List.flatMap_append, List.flatMap_singleton] at hj
    by_cases hjm : j < m * size
    · rw [List.getElem?_append_left (by rw [hlen]; exact hjm)] at hj
      exact ih (by omega) j u hj
    · rw [List.getElem?_append_right (by rw [hlen]; omega), hlen] at hj
      have h2 := ((hs (by omega)).2.2 m (by omega)).2
      rw [← h2, List.getElem?_take] at hj
      split at hj
      · rw [List.getElem?_drop] at hj
        rw [show off + j = off + m * size + (j - m * size) by omega]; exact hj
      · cases hj
/-- All of a slice that is read, as an append's source. -/
theorem sl_src {size n cap b off : Nat} {a : Option Addr} {cs : List Value} {T : TypeId} {fr : Nat × Nat} {F : Frag} {el : Nat → List Value} (hs : SlB F size a n b off cs T fr el) (hel : ∀ j, j < n → (el j).length = size) {w : World} (hM : Mem w F) :
    Src w (.slice a n cap) n ((List.range n).flatMap el) := by
  rcases Nat.eq_zero_or_pos n with h0 | h0
  · subst h0
    cases a with
    | none => exact .inr ⟨cap, rfl, rfl⟩
    | some a => exact .inl ⟨a, cap, rfl, fun j u hj => by cases hj⟩
  · obtain ⟨rfl, hm, _⟩ := hs h0
    refine .inl ⟨_, _, rfl, fun j u hj => ?_⟩
    rw [add_spot, cell_of hM hm]
    exact flat_at hs hel n (Nat.le_refl _) j u hj
theorem flat_one {el : Nat → List Value} {n : Nat} (h1 : ∀ j, j < n → ∀ u ∈ el j, u.oneCell' = true) : ∀ u ∈ (List.range n).flatMap el, u.oneCell' = true := by
  intro u hu; obtain ⟨j, hj, hu⟩ := List.mem_flatMap.1 hu; exact h1 j (List.mem_range.1 hj) u hu
theorem c_Own {a : Option Addr} {cap : Nat} (x : Auc) {F : Frag} (w0 : World) (hF : Mem w0 F) (hs0 : Bids F a cap x.bids) (hb : x.bids.length ≤ 8796093022208) :
    Calls Try.prog 13 [.agg (x.cells a cap).toArray].toArray w0 (RetF (OwnA x) w0) := by
  obtain ⟨hn, hc, b0, off, cs, T, fr, hs⟩ := id hs0
  refine enter [.cell 2 24] Try.func13 rfl Try.ntmps13 rfl rfl ?_
  have H := St.start w0
  repeat' (first | refine y1 sg ?_ | refine y2 sg ?_ | refine y3 ?_ | refine y4 ?_ | refine y5 sg ?_ | refine y6 sg ?_ | refine y7 sg H ?_ | refine y8 sg H ?_ | (refine y9 H ?_; intro b w H) | (refine y10 sg H ?_; intro b w H) | (refine y11 sg H ?_; intro w H) | refine y12 ?_ | (refine OX.build0 sg H rfl rfl rfl rfl rfl rfl ?_; intro b w H _) | (refine OX.append sg 2 16 (M := []) (G := [_, _]) H rfl rfl rfl rfl rfl rfl rfl rfl rfl rfl rfl (Own.nil _ _ _) (sl_src hs (fun j _ => bel_len _ j) (H.memF hF)) (flat_len (fun j _ => bel_len _ j)) (flat_one (fun j _ => bel_one _ j)) (by unfold maxLen; omega) (by omega) ?_; intro a' cap' M w hO H; simp only [Nat.zero_add, List.nil_append] at hO; replace H := H.perm List.perm_append_comm; simp only [List.cons_append, List.nil_append] at H; rw [Nat.zero_add]) | refine y13 ?_ | refine y14 ?_ | refine y15 ?_ | refine y16 ?_ | (refine y17 ?_ ?_; all_goals intro h) | (refine y18 ?_ ?_; all_goals intro h) | with_reducible apply OW.app | with_reducible apply OW.app0 | with_reducible apply QW.app | with_reducible apply QW.app0 | with_reducible apply OW.nil | (with_reducible apply QW.nil; intro w hcl; replace H := H.ext hcl; clear hcl) | refine y19 ?_ | with_reducible apply thn_n | with_reducible apply CW.seq | with_reducible apply CW.region | refine y20 mixed ?_ | with_reducible apply CW.block | with_reducible apply CW.ret | with_reducible apply CW.exit | with_reducible apply CW.skip | with_reducible apply thn_r | with_reducible apply thn_e | with_reducible apply blk_n | with_reducible apply blk_r | refine y24 ?_ | refine y25 ?_ | refine y21 ?_ | refine y22 ?_ | fail)
  refine retVF (vs := [_]) (M := M) ⟨rdvC sg rfl H.mem (List.Mem.head _) rfl rfl, trivial⟩ (H.sub (by repeat (first | exact List.Sublist.refl _ | exact List.nil_sublist _ | apply List.Sublist.cons_cons | apply List.Sublist.cons))) ⟨a', cap', rfl, hO⟩
end Go.Proofs.Ytkcoemikglbomaa
