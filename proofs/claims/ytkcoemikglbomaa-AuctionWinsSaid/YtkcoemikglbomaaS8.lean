/- Insertion sorts by End, then ID, if the IDs went up; the library's stable sort over up to 39 auctions, walked. -/
import Derived.Test.YtkcoemikglbomaaS7
import Derived.Test.YtkcoemikglbomaaS2
set_option linter.unusedSimpArgs false
set_option linter.unusedVariables false
namespace Go.Proofs.Ytkcoemikglbomaa
open Go Go.Sk Go.RowKit
attribute [local irreducible] Go.Calls
theorem slt.trans {x y z : AE} (h : slt x y) (k : slt y z) : slt x z := by
  unfold slt at *
  omega
theorem sw_rot {d : Nat → AE} {j : Nat} : sw d (j + 1) j = rotF d j (j + 1) (j + 2) := by
  have := rot_step_down (d := d) (i := j) (m := j + 1) (Nat.lt_succ_self j)
  rwa [rot_none'] at this
theorem insDown_sorts {a e : Nat} : ∀ (j : Nat) (d : Nat → AE), a ≤ j → j < e → Seg d a j → Seg d j e → (∀ p q, a ≤ p → p < j → j < q → q < e → slt (d p) (d q)) → (∀ p, a ≤ p → p < j → (d p).1.id < (d j).1.id) →
    Seg (insDown a j d) a e ∧ Out d (insDown a j d) a e ∧ Pm d (insDown a j d) a e
  | 0, d, h1, _, _, s2, _, _ => by
    obtain rfl : a = 0 := by omega
    exact ⟨s2, fun _ _ => rfl, Pm.refl _ _ _⟩
  | j + 1, d, h1, h2, s1, s2, hc, hi => by
    rw [insDown]
    split
    · rename_i hh
      obtain ⟨ha, hlt⟩ := hh
      have hlt : (d (j + 1)).1.fin < (d j).1.fin := of_decide_eq_true hlt
      have e1 : ∀ k, k ≠ j → k ≠ j + 1 → sw d (j + 1) j k = d k := fun k g1 g2 => by unfold sw; rw [if_neg g2, if_neg g1]
      have e2 : sw d (j + 1) j j = d (j + 1) := by unfold sw; rw [if_neg (by omega), if_pos rfl]
      have e3 : sw d (j + 1) j (j + 1) = d j := by unfold sw; rw [if_pos rfl]
      obtain ⟨q1, q2, q3⟩ := insDown_sorts (a := a) (e := e) j (sw d (j + 1) j) (by omega) (by omega)
        (fun p q g1 g2 g3 => by rw [e1 p (by omega) (by omega), e1 q (by omega) (by omega)]; exact s1 p q g1 g2 (by omega))
        (fun p q g1 g2 g3 => by
          rcases (show p = j ∨ p = j + 1 ∨ j + 1 < p by omega) with rfl | rfl | g
          · rw [e2]
            rcases (show q = p + 1 ∨ p + 1 < q by omega) with rfl | g4
            · rw [e3]; exact .inl hlt
            · rw [e1 q (by omega) (by omega)]; exact s2 _ _ (by omega) g4 g3
          · rw [e3, e1 q (by omega) (by omega)]; exact hc _ _ (by omega) (by omega) g2 g3
          · rw [e1 p (by omega) (by omega), e1 q (by omega) (by omega)]; exact s2 _ _ (by omega) g2 g3)
        (fun p q g1 g2 g3 g4 => by
          rw [e1 p (by omega) (by omega)]
          rcases (show q = j + 1 ∨ j + 1 < q by omega) with rfl | g5
          · rw [e3]; exact s1 _ _ g1 g2 (by omega)
          · rw [e1 q (by omega) (by omega)]; exact hc _ _ g1 (by omega) g5 g4)
        (fun p g1 g2 => by rw [e1 p (by omega) (by omega), e2]; exact hi p g1 (by omega))
      have o1 : Out d (sw d (j + 1) j) j (j + 2) := by rw [sw_rot]; exact rot_out (by omega) (by omega)
      have o2 : Pm d (sw d (j + 1) j) j (j + 2) := by rw [sw_rot]; exact rot_pm (by omega) (by omega)
      exact ⟨q1, fun k hk => by rw [q2 k hk, o1 k (by omega)], (o2.wide o1 (by omega) (by omega) (by omega)).trans q3⟩
    · rename_i hh
      refine ⟨?_, fun _ _ => rfl, Pm.refl _ _ _⟩
      rcases Nat.lt_or_ge a (j + 1) with ha | ha
      · have hge : ¬ (d (j + 1)).1.fin < (d j).1.fin := fun g => hh ⟨ha, decide_eq_true g⟩
        have hx : slt (d j) (d (j + 1)) := by
          have := hi j (by omega) (Nat.lt_succ_self j)
          unfold slt; omega
        intro p q g1 g2 g3
        rcases (show q < j + 1 ∨ q = j + 1 ∨ j + 1 < q by omega) with g | rfl | g
        · exact s1 p q g1 g2 g
        · rcases (show p = j ∨ p < j by omega) with rfl | g4
          · exact hx
          · exact slt.trans (s1 p j g1 g4 (Nat.lt_succ_self j)) hx
        · rcases (show p < j + 1 ∨ j + 1 ≤ p by omega) with g4 | g4
          · exact hc p q g1 g4 g g3
          · exact s2 p q g4 g2 g3
      · obtain rfl : a = j + 1 := by omega
        exact s2
def Asc (d : Nat → AE) (a b : Nat) : Prop := ∀ p q, a ≤ p → p < q → q < b → (d p).1.id < (d q).1.id
theorem isortFrom_sorts {a e : Nat} : ∀ (m i : Nat) (d : Nat → AE), m = e - i → a + 1 ≤ i → i ≤ e → Seg d a i → (∀ p q, a ≤ p → p < i → i ≤ q → q < e → (d p).1.id < (d q).1.id) → Asc d i e →
    Seg (isortFrom a m i d) a e ∧ Out d (isortFrom a m i d) a e ∧ Pm d (isortFrom a m i d) a e
  | 0, i, d, hm, h1, h2, s, _, _ => by
    obtain rfl : i = e := by omega
    exact ⟨s, fun _ _ => rfl, Pm.refl _ _ _⟩
  | m + 1, i, d, hm, h1, h2, s, hc, hi => by
    rw [isortFrom]
    obtain ⟨q1, q2, q3⟩ := insDown_sorts (a := a) (e := i + 1) i d (by omega) (Nat.lt_succ_self i) s (fun p q g1 g2 g3 => by omega) (fun p q g1 g2 g3 g4 => by omega) (fun p g1 g2 => hc p i g1 g2 (Nat.le_refl _) (by omega))
    obtain ⟨p1, p2, p3⟩ := isortFrom_sorts (a := a) (e := e) m (i + 1) (insDown a i d) (by omega) (by omega) (by omega) q1
      (fun p q g1 g2 g3 g4 => by
        rw [q2 q (by omega)]
        have : insDown a i d p ∈ seg d a (i + 1) := q3.mem_iff.1 (seg_mem.2 ⟨p, g1, g2, rfl⟩)
        obtain ⟨k, k1, k2, k3⟩ := seg_mem.1 this
        rw [← k3]
        rcases (show k = i ∨ k < i by omega) with rfl | k4
        · exact hi _ _ (Nat.le_refl _) (by omega) g4
        · exact hc _ _ k1 k4 (by omega) g4)
      (fun p q g1 g2 g3 => by rw [q2 p (by omega), q2 q (by omega)]; exact hi _ _ (by omega) g2 g3)
    exact ⟨p1, fun k hk => by rw [p2 k hk, q2 k (by omega)], (q3.wide q2 (Nat.le_refl _) (by omega) (by omega)).trans p3⟩
theorem isort_sorts {a e : Nat} {d : Nat → AE} (h : a ≤ e) (hi : Asc d a e) : Seg (isort a e d) a e ∧ Out d (isort a e d) a e ∧ Pm d (isort a e d) a e := by
  rcases Nat.lt_or_ge a e with h1 | h1
  · exact isortFrom_sorts _ _ d rfl (Nat.le_refl _) h1 (fun p q g1 g2 g3 => by omega) (fun p q g1 g2 g3 g4 => hi p q g1 (by omega) g4) (fun p q g1 g2 g3 => hi p q (by omega) g2 g3)
  · obtain rfl : a = e := by omega
    unfold isort
    rw [show a - (a + 1) = 0 by omega, isortFrom]
    exact ⟨fun p q g1 g2 g3 => by omega, fun _ _ => rfl, Pm.refl _ _ _⟩
/-- What the stable sort leaves. -/
def Sorts2 (w0 : World) (g len n : Nat) (G : Frag) (d : Nat → AE) : Ending → World → Prop :=
  RetF (fun M v => v = .tuple #[] ∧ ∃ d' cs', M = cb g cs' 24 :: G ∧ cs'.length = len ∧ Els cs' 9 n (fun j => (d' j).c) ∧ Seg d' 0 n ∧ Out d d' 0 n ∧ Pm d d' 0 n) w0
set_option maxHeartbeats 4000000 in
theorem c_stable2 {w0 w : World} {g len n cap : Nat} {G : Frag} {d : Nat → AE} {cs : List Value} (hA : Arr w0 g len n G d cs w) (hn : n < 40) (hi : Asc d 0 n) :
    Calls Try.prog 61 [.slice (some ⟨g, 0, none⟩) n cap, .int .i64 (n : Int), .func (.func 53) #[] #[]].toArray w (Sorts2 w0 g len n G d) := by
  rcases Nat.lt_or_ge n 20 with h20 | h20
  · obtain ⟨q1, q2, q3⟩ := isort_sorts (Nat.zero_le n) hi
    exact (c_stable hA h20).mono fun e w' ⟨v, M, he, ⟨hv, cs', hM, hl, hels⟩, hs⟩ => ⟨v, M, he, ⟨hv, _, cs', hM, hl, hels, q1, q2, q3⟩, hs⟩
  obtain ⟨a1, a2, a3⟩ := isort_sorts (a := 0) (e := 20) (Nat.zero_le 20) (fun p q g1 g2 g3 => hi p q g1 g2 (by omega))
  obtain ⟨b1, b2, b3⟩ := isort_sorts (a := 20) (e := n) (d := isort 0 20 d) h20 (fun p q g1 g2 g3 => by rw [a2 p (by omega), a2 q (by omega)]; exact hi p q (Nat.zero_le _) g2 g3)
  generalize hd1 : isort 0 20 d = d1 at *
  generalize hd2 : isort 20 n d1 = d2 at *
  have m0 : ∀ k, k < 20 → ∃ j, j < 20 ∧ d2 k = d j := fun k hk => by
    rw [b2 k (by omega)]
    obtain ⟨j, j1, j2, j3⟩ := seg_mem.1 (a3.mem_iff.1 (seg_mem.2 ⟨k, Nat.zero_le _, hk, rfl⟩))
    exact ⟨j, j2, j3.symm⟩
  have m1 : ∀ k, 20 ≤ k → k < n → ∃ j, 20 ≤ j ∧ j < n ∧ d2 k = d j := fun k hk hk2 => by
    obtain ⟨j, j1, j2, j3⟩ := seg_mem.1 (b3.mem_iff.1 (seg_mem.2 ⟨k, hk, hk2, rfl⟩))
    exact ⟨j, j1, j2, by rw [← j3, a2 j (by omega)]⟩
  have hcr : Cross d2 0 20 n := fun p q g1 g2 g3 g4 _ => by
    obtain ⟨j, j1, j2⟩ := m0 p g2
    obtain ⟨k, k1, k2, k3⟩ := m1 q g3 g4
    rw [j2, k3]
    exact hi _ _ (Nat.zero_le _) (by omega) k2
  have s1 : Seg d2 0 20 := fun p q g1 g2 g3 => by rw [b2 p (by omega), b2 q (by omega)]; exact a1 p q g1 g2 g3
  have o2 : Out d d2 0 n := fun k hk => by rw [b2 k (by omega), a2 k (by omega)]
  have p2 : Pm d d2 0 n := (a3.wide a2 (Nat.le_refl _) (Nat.zero_le _) h20).trans (b3.wide b2 (Nat.zero_le _) h20 (Nat.le_refl _))
  refine enter [] Try.func61 rfl Try.ntmps61 rfl rfl ?_
  have H := hA
  clear hA
  repeat' (first | refine y1 sg ?_ | refine y2 sg ?_ | refine y3 ?_ | refine y4 ?_ | refine y5 sg ?_ | refine y6 sg ?_ | refine y7 sg H ?_ | refine y8 sg H ?_ | (refine y9 H ?_; intro b w H) | (refine y10 sg H ?_; intro b w H) | (refine y11 sg H ?_; intro w H) | refine y12 ?_ | refine y13 ?_ | refine y14 ?_ | refine y15 ?_ | refine y16 ?_ | (refine y17 ?_ ?_; all_goals intro h) | (refine y18 ?_ ?_; all_goals intro h) | with_reducible apply OW.app | with_reducible apply OW.app0 | with_reducible apply QW.app | with_reducible apply QW.app0 | with_reducible apply OW.nil | (with_reducible apply QW.nil; intro w hcl; replace H := H.ext hcl; clear hcl) | refine y19 ?_ | with_reducible apply thn_n | with_reducible apply CW.seq | with_reducible apply CW.region | refine y20 mixed ?_ | with_reducible apply CW.block | with_reducible apply CW.ret | with_reducible apply CW.exit | with_reducible apply CW.skip | with_reducible apply thn_r | with_reducible apply thn_e | with_reducible apply blk_n | with_reducible apply blk_r | refine y24 ?_ | refine y25 ?_ | refine y21 ?_ | refine y22 ?_ | fail)
  refine CW.loopI [(7, 8), (11, 22)] (fun x : Nat × (Nat → AE) × List Value => [(7, .int .i64 (x.1 : Int)), (8, .int .i64 ((x.1 + 20 : Nat) : Int))]) (fun x w => (x.1 = 0 ∧ x.2.1 = d ∨ x.1 = 20 ∧ x.2.1 = d1) ∧ Arr w0 g len n G x.2.1 x.2.2 w) (fun x => 20 - x.1) (0, d, cs) ⟨rfl, rfl, trivial⟩ ⟨.inl ⟨rfl, rfl⟩, H⟩ ?_
  clear H
  rintro ⟨i, D, cs1⟩ gh w ⟨hi0, H⟩
  simp only at hi0 H ⊢
  repeat' (first | refine y1 sg ?_ | refine y2 sg ?_ | refine y3 ?_ | refine y4 ?_ | refine y5 sg ?_ | refine y6 sg ?_ | refine y7 sg H ?_ | refine y8 sg H ?_ | (refine y9 H ?_; intro b w H) | (refine y10 sg H ?_; intro b w H) | (refine y11 sg H ?_; intro w H) | refine y12 ?_ | refine y13 ?_ | refine y14 ?_ | refine y15 ?_ | refine y16 ?_ | (refine y17 ?_ ?_; all_goals intro h) | (refine y18 ?_ ?_; all_goals intro h) | with_reducible apply OW.app | with_reducible apply OW.app0 | with_reducible apply QW.app | with_reducible apply QW.app0 | with_reducible apply OW.nil | (with_reducible apply QW.nil; intro w hcl; replace H := H.ext hcl; clear hcl) | refine y19 ?_ | with_reducible apply thn_n | with_reducible apply CW.seq | with_reducible apply CW.region | refine y20 mixed ?_ | with_reducible apply CW.block | with_reducible apply CW.ret | with_reducible apply CW.exit | with_reducible apply CW.skip | with_reducible apply thn_r | with_reducible apply thn_e | with_reducible apply blk_n | with_reducible apply blk_r | refine y24 ?_ | refine y25 ?_ | refine y21 ?_ | refine y22 ?_ | fail)
  refine CW.cond rfl (fun h => ?_) (fun h => ?_)
  · obtain ⟨rfl, rfl⟩ : i = 0 ∧ D = d := by
      rcases hi0 with h0 | ⟨rfl, _⟩
      · exact h0
      · exfalso; have := of_decide_eq_true h; omega
    repeat' (first | refine y1 sg ?_ | refine y2 sg ?_ | refine y3 ?_ | refine y4 ?_ | refine y5 sg ?_ | refine y6 sg ?_ | refine y7 sg H ?_ | refine y8 sg H ?_ | (refine y9 H ?_; intro b w H) | (refine y10 sg H ?_; intro b w H) | (refine y11 sg H ?_; intro w H) | refine y12 ?_ | (refine' y33 ent65 ?_ ?_; rotate_left 2; exact c_isort (a := 0) (e := 20) H (Nat.zero_le _) h20 (by omega); rintro _ _ w ⟨rfl, cs', rfl, hl, he⟩ HS; have H' : Arr w0 g len n G d1 cs' w := ⟨HS, hl, hd1 ▸ he⟩; clear H HS hl he; have H := H'; clear H') | refine y13 ?_ | refine y14 ?_ | refine y15 ?_ | refine y16 ?_ | (refine y17 ?_ ?_; all_goals intro h) | (refine y18 ?_ ?_; all_goals intro h) | with_reducible apply OW.app | with_reducible apply OW.app0 | with_reducible apply QW.app | with_reducible apply QW.app0 | with_reducible apply OW.nil | (with_reducible apply QW.nil; intro w hcl; replace H := H.ext hcl; clear hcl) | refine y19 ?_ | with_reducible apply thn_n | with_reducible apply CW.seq | with_reducible apply CW.region | refine y20 mixed ?_ | with_reducible apply CW.block | with_reducible apply CW.ret | with_reducible apply CW.exit | with_reducible apply CW.skip | with_reducible apply thn_r | with_reducible apply thn_e | with_reducible apply blk_n | with_reducible apply blk_r | refine y24 ?_ | refine y25 ?_ | refine y21 ?_ | refine y22 ?_ | fail)
    exact Again.mk (20, d1, _) rfl ⟨rfl, rfl, trivial⟩ ⟨.inr ⟨rfl, rfl⟩, H⟩ (by show 20 - 20 < 20 - 0; omega)
  · obtain ⟨rfl, rfl⟩ : i = 20 ∧ D = d1 := by
      rcases hi0 with ⟨rfl, _⟩ | h0
      · exfalso; have := of_decide_eq_false h; omega
      · exact h0
    repeat' (first | refine y1 sg ?_ | refine y2 sg ?_ | refine y3 ?_ | refine y4 ?_ | refine y5 sg ?_ | refine y6 sg ?_ | refine y7 sg H ?_ | refine y8 sg H ?_ | (refine y9 H ?_; intro b w H) | (refine y10 sg H ?_; intro b w H) | (refine y11 sg H ?_; intro w H) | refine y12 ?_ | (refine' y33 ent65 ?_ ?_; rotate_left 2; exact c_isort (a := 20) (e := n) H h20 (Nat.le_refl _) (by omega); rintro _ _ w ⟨rfl, cs', rfl, hl, he⟩ HS; have H' : Arr w0 g len n G d2 cs' w := ⟨HS, hl, hd2 ▸ he⟩; clear H HS hl he; have H := H'; clear H') | refine y13 ?_ | refine y14 ?_ | refine y15 ?_ | refine y16 ?_ | (refine y17 ?_ ?_; all_goals intro h) | (refine y18 ?_ ?_; all_goals intro h) | with_reducible apply OW.app | with_reducible apply OW.app0 | with_reducible apply QW.app | with_reducible apply QW.app0 | with_reducible apply OW.nil | (with_reducible apply QW.nil; intro w hcl; replace H := H.ext hcl; clear hcl) | refine y19 ?_ | with_reducible apply thn_n | with_reducible apply CW.seq | with_reducible apply CW.region | refine y20 mixed ?_ | with_reducible apply CW.block | with_reducible apply CW.ret | with_reducible apply CW.exit | with_reducible apply CW.skip | with_reducible apply thn_r | with_reducible apply thn_e | with_reducible apply blk_n | with_reducible apply blk_r | refine y24 ?_ | refine y25 ?_ | refine y21 ?_ | refine y22 ?_ | fail)
    refine CW.loopI [(6, 9), (28, 62)] (fun x : Nat × (Nat → AE) × List Value => [(6, .int .i64 (x.1 : Int))]) (fun x w => (x.1 = 20 ∧ x.2.1 = d2 ∨ x.1 = 40 ∧ Seg x.2.1 0 n ∧ Out d x.2.1 0 n ∧ Pm d x.2.1 0 n) ∧ Arr w0 g len n G x.2.1 x.2.2 w) (fun x => 40 - x.1) (20, d2, _) ⟨rfl, trivial⟩ ⟨.inl ⟨rfl, rfl⟩, H⟩ ?_
    clear H
    rintro ⟨i, D, cs2⟩ gh2 w ⟨hi0, H⟩
    simp only at hi0 H ⊢
    repeat' (first | refine y1 sg ?_ | refine y2 sg ?_ | refine y3 ?_ | refine y4 ?_ | refine y5 sg ?_ | refine y6 sg ?_ | refine y7 sg H ?_ | refine y8 sg H ?_ | (refine y9 H ?_; intro b w H) | (refine y10 sg H ?_; intro b w H) | (refine y11 sg H ?_; intro w H) | refine y12 ?_ | refine y13 ?_ | refine y14 ?_ | refine y15 ?_ | refine y16 ?_ | (refine y17 ?_ ?_; all_goals intro h) | (refine y18 ?_ ?_; all_goals intro h) | with_reducible apply OW.app | with_reducible apply OW.app0 | with_reducible apply QW.app | with_reducible apply QW.app0 | with_reducible apply OW.nil | (with_reducible apply QW.nil; intro w hcl; replace H := H.ext hcl; clear hcl) | refine y19 ?_ | with_reducible apply thn_n | with_reducible apply CW.seq | with_reducible apply CW.region | refine y20 mixed ?_ | with_reducible apply CW.block | with_reducible apply CW.ret | with_reducible apply CW.exit | with_reducible apply CW.skip | with_reducible apply thn_r | with_reducible apply thn_e | with_reducible apply blk_n | with_reducible apply blk_r | refine y24 ?_ | refine y25 ?_ | refine y21 ?_ | refine y22 ?_ | fail)
    refine CW.cond rfl (fun h2 => ?_) (fun h2 => ?_)
    · obtain ⟨rfl, rfl⟩ : i = 20 ∧ D = d2 := by
        rcases hi0 with h0 | ⟨rfl, _⟩
        · exact h0
        · exfalso; have := of_decide_eq_true h2; omega
      have hlt : 20 < n := by have := of_decide_eq_true h2; omega
      repeat' (first | refine y1 sg ?_ | refine y2 sg ?_ | refine y3 ?_ | refine y4 ?_ | refine y5 sg ?_ | refine y6 sg ?_ | refine y7 sg H ?_ | refine y8 sg H ?_ | (refine y9 H ?_; intro b w H) | (refine y10 sg H ?_; intro b w H) | (refine y11 sg H ?_; intro w H) | refine y12 ?_ | refine y13 ?_ | refine y14 ?_ | refine y15 ?_ | refine y16 ?_ | (refine y17 ?_ ?_; all_goals intro h) | (refine y18 ?_ ?_; all_goals intro h) | with_reducible apply OW.app | with_reducible apply OW.app0 | with_reducible apply QW.app | with_reducible apply QW.app0 | with_reducible apply OW.nil | (with_reducible apply QW.nil; intro w hcl; replace H := H.ext hcl; clear hcl) | refine y19 ?_ | with_reducible apply thn_n | with_reducible apply CW.seq | with_reducible apply CW.region | refine y20 mixed ?_ | with_reducible apply CW.block | with_reducible apply CW.ret | with_reducible apply CW.exit | with_reducible apply CW.skip | with_reducible apply thn_r | with_reducible apply thn_e | with_reducible apply blk_n | with_reducible apply blk_r | refine y24 ?_ | refine y25 ?_ | refine y21 ?_ | refine y22 ?_ | fail)
      refine CW.loopI [(7, 8), (33, 48)] (fun _ : Unit => [(7, .int .i64 0), (8, .int .i64 40)]) (fun _ w => Arr w0 g len n G D cs2 w) (fun _ => 0) () ⟨rfl, rfl, trivial⟩ H ?_
      clear H
      rintro _ gh3 w H
      repeat' (first | refine y1 sg ?_ | refine y2 sg ?_ | refine y3 ?_ | refine y4 ?_ | refine y5 sg ?_ | refine y6 sg ?_ | refine y7 sg H ?_ | refine y8 sg H ?_ | (refine y9 H ?_; intro b w H) | (refine y10 sg H ?_; intro b w H) | (refine y11 sg H ?_; intro w H) | refine y12 ?_ | refine y13 ?_ | refine y14 ?_ | refine y15 ?_ | refine y16 ?_ | (refine y17 ?_ ?_; all_goals intro h) | (refine y18 ?_ ?_; all_goals intro h) | with_reducible apply OW.app | with_reducible apply OW.app0 | with_reducible apply QW.app | with_reducible apply QW.app0 | with_reducible apply OW.nil | (with_reducible apply QW.nil; intro w hcl; replace H := H.ext hcl; clear hcl) | refine y19 ?_ | with_reducible apply thn_n | with_reducible apply CW.seq | with_reducible apply CW.region | refine y20 mixed ?_ | with_reducible apply CW.block | with_reducible apply CW.ret | with_reducible apply CW.exit | with_reducible apply CW.skip | with_reducible apply thn_r | with_reducible apply thn_e | with_reducible apply blk_n | with_reducible apply blk_r | refine y24 ?_ | refine y25 ?_ | refine y21 ?_ | refine y22 ?_ | fail)
      refine CW.cond rfl (fun h3 => ?_) (fun h3 => ?_)
      · exact absurd (of_decide_eq_true h3) (by omega)
      have hw20 : decide ((20 : Int) < n) = true := decide_eq_true (by omega)
      repeat' (first | refine y1 sg ?_ | refine y2 sg ?_ | refine y3 ?_ | refine y4 ?_ | refine y5 sg ?_ | refine y6 sg ?_ | refine y7 sg H ?_ | refine y8 sg H ?_ | (refine y9 H ?_; intro b w H) | (refine y10 sg H ?_; intro b w H) | (refine y11 sg H ?_; intro w H) | refine y12 ?_ | (refine' y33 ent66 ?_ ?_; rotate_left 2; exact c_symMerge (by omega) n (a := 0) (m := 20) (b := n) (by omega) (by omega) hlt (Nat.le_refl _) H s1 b1 hcr; rintro _ _ w ⟨rfl, d3, cs', rfl, hl, he, q1, q2, q3⟩ HS; have H' : Arr w0 g len n G d3 cs' w := ⟨HS, hl, he⟩; clear H HS hl he; have H := H'; clear H') | refine y13 ?_ | refine y14 ?_ | refine y15 ?_ | refine y16 ?_ | (refine y17 ?_ ?_; all_goals (intro h; try (exfalso; first | (rw [w64 (by omega) (by omega)] at h; (simp only [decide_eq_true_eq, decide_eq_false_iff_not, beq_iff_eq, beq_eq_false_iff_ne, bne_iff_ne, ne_eq, Bool.not_eq_true, Int.not_lt, Int.not_le, gt_iff_lt, ge_iff_le] at h; omega); done)))) | (refine y18 ?_ ?_; all_goals (intro h; try (exfalso; first | (rw [w64 (by omega) (by omega)] at h; (simp only [decide_eq_true_eq, decide_eq_false_iff_not, beq_iff_eq, beq_eq_false_iff_ne, bne_iff_ne, ne_eq, Bool.not_eq_true, Int.not_lt, Int.not_le, gt_iff_lt, ge_iff_le] at h; omega); done)))) | with_reducible apply OW.app | with_reducible apply OW.app0 | with_reducible apply QW.app | with_reducible apply QW.app0 | with_reducible apply OW.nil | (with_reducible apply QW.nil; intro w hcl; replace H := H.ext hcl; clear hcl) | refine y19 ?_ | with_reducible apply thn_n | with_reducible apply CW.seq | with_reducible apply CW.region | refine y20 mixed ?_ | with_reducible apply CW.block | with_reducible apply CW.ret | with_reducible apply CW.exit | with_reducible apply CW.skip | with_reducible apply thn_r | with_reducible apply thn_e | with_reducible apply blk_n | with_reducible apply blk_r | refine y24 ?_ | refine y25 ?_ | refine y21 ?_ | refine y22 ?_ | (refine y23 ?_ ?_; all_goals (intro h; try (exfalso; first | (rw [w64 (by omega) (by omega)] at h; (simp only [decide_eq_true_eq, decide_eq_false_iff_not, beq_iff_eq, beq_eq_false_iff_ne, bne_iff_ne, ne_eq, Bool.not_eq_true, Int.not_lt, Int.not_le, gt_iff_lt, ge_iff_le] at h; omega); done)))) | fail)
      exact Again.mk2 (40, d3, _) rfl ⟨rfl, trivial⟩ ⟨.inr ⟨rfl, q1, fun k hk => (q2 k hk).trans (o2 k hk), p2.trans q3⟩, H⟩ (by show 40 - 40 < 40 - 20; omega)
    · have h3 : i = 40 ∧ Seg D 0 n ∧ Out d D 0 n ∧ Pm d D 0 n ∨ (i = 20 ∧ n = 20 ∧ D = d2) := by
        rcases hi0 with ⟨rfl, rfl⟩ | h0
        · right; exact ⟨rfl, by have := of_decide_eq_false h2; omega, rfl⟩
        · exact .inl h0
      have h4 : Seg D 0 n ∧ Out d D 0 n ∧ Pm d D 0 n := by
        rcases h3 with ⟨_, q⟩ | ⟨_, rfl, rfl⟩
        · exact q
        · exact ⟨s1, o2, p2⟩
      repeat' (first | refine y1 sg ?_ | refine y2 sg ?_ | refine y3 ?_ | refine y4 ?_ | refine y5 sg ?_ | refine y6 sg ?_ | refine y7 sg H ?_ | refine y8 sg H ?_ | (refine y9 H ?_; intro b w H) | (refine y10 sg H ?_; intro b w H) | (refine y11 sg H ?_; intro w H) | refine y12 ?_ | refine y13 ?_ | refine y14 ?_ | refine y15 ?_ | refine y16 ?_ | (refine y17 ?_ ?_; all_goals intro h) | (refine y18 ?_ ?_; all_goals intro h) | with_reducible apply OW.app | with_reducible apply OW.app0 | with_reducible apply QW.app | with_reducible apply QW.app0 | with_reducible apply OW.nil | (with_reducible apply QW.nil; intro w hcl; replace H := H.ext hcl; clear hcl) | refine y19 ?_ | with_reducible apply thn_n | with_reducible apply CW.seq | with_reducible apply CW.region | refine y20 mixed ?_ | with_reducible apply CW.block | with_reducible apply CW.ret | with_reducible apply CW.exit | with_reducible apply CW.skip | with_reducible apply thn_r | with_reducible apply thn_e | with_reducible apply blk_n | with_reducible apply blk_r | refine y24 ?_ | refine y25 ?_ | refine y21 ?_ | refine y22 ?_ | fail)
      exact retVFn (vs := []) (M := _) trivial H.st ⟨rfl, D, _, rfl, H.len, H.els, h4.1, h4.2.1, h4.2.2⟩
theorem c_SortStable2 {w0 w : World} {g len n cap : Nat} {G : Frag} {d : Nat → AE} {cs : List Value} (hA : Arr w0 g len n G d cs w) (hn : n < 40) (hi : Asc d 0 n) :
    Calls Try.prog 52 [.slice (some ⟨g, 0, none⟩) n cap, .func (.func 53) #[] #[]].toArray w (Sorts2 w0 g len n G d) := by
  refine enter [] Try.func52 rfl Try.ntmps52 rfl rfl ?_
  have H := hA
  clear hA
  repeat' (first | refine y1 sg ?_ | refine y2 sg ?_ | refine y3 ?_ | refine y4 ?_ | refine y5 sg ?_ | refine y6 sg ?_ | refine y7 sg H ?_ | refine y8 sg H ?_ | (refine y9 H ?_; intro b w H) | (refine y10 sg H ?_; intro b w H) | (refine y11 sg H ?_; intro w H) | refine y12 ?_ | (refine' y33 ent61 ?_ ?_; rotate_left 2; exact c_stable2 H hn hi; rintro _ _ w ⟨rfl, d', cs', rfl, hl, he, q⟩ HS) | refine y13 ?_ | refine y14 ?_ | refine y15 ?_ | refine y16 ?_ | (refine y17 ?_ ?_; all_goals intro h) | (refine y18 ?_ ?_; all_goals intro h) | with_reducible apply OW.app | with_reducible apply OW.app0 | with_reducible apply QW.app | with_reducible apply QW.app0 | with_reducible apply OW.nil | (with_reducible apply QW.nil; intro w hcl; replace H := H.ext hcl; clear hcl) | refine y19 ?_ | with_reducible apply thn_n | with_reducible apply CW.seq | with_reducible apply CW.region | refine y20 mixed ?_ | with_reducible apply CW.block | with_reducible apply CW.ret | with_reducible apply CW.exit | with_reducible apply CW.skip | with_reducible apply thn_r | with_reducible apply thn_e | with_reducible apply blk_n | with_reducible apply blk_r | refine y24 ?_ | refine y25 ?_ | refine y21 ?_ | refine y22 ?_ | fail)
  exact retVFn (vs := []) (M := _) trivial HS ⟨rfl, d', cs', rfl, hl, he, q⟩
end Go.Proofs.Ytkcoemikglbomaa
