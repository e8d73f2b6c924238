/- Plain laws of the auctions' row. -/
import Derived.Test.YtkcoemikglbomaaA17
set_option linter.unusedSimpArgs false
set_option linter.unusedVariables false
namespace Go.Proofs.Ytkcoemikglbomaa
open Go Go.Sk Go.RowKit
theorem mem_getD {l : List Auc} {x : Auc} (h : x ∈ l) : ∃ j, j < l.length ∧ l.getD j default = x := by
  obtain ⟨j, hj, he⟩ := List.getElem_of_mem h
  exact ⟨j, hj, by simpa [List.getD_eq_getElem?_getD, hj] using he⟩
theorem getF_mem {l : List Auc} {x : Auc} (hm : mayAllF l = true) (h : x ∈ l) : getF l x.id = (x, true) := by
  obtain ⟨_, _, hasc⟩ := mayAll_id hm
  obtain ⟨j, hj, rfl⟩ := mem_getD h
  have : getI l (l.getD j default).id = j := by
    unfold getI
    refine idx_hit hj (fun i hi => ?_) (by simp)
    have := hasc i j hi hj
    simp only [beq_eq_false_iff_ne, ne_eq]
    omega
  unfold getF
  rw [this, if_neg (by omega), Int.toNat_natCast]
theorem IsRow.mem {l : List Auc} {clock : Int} {r : List Auc} (h : IsRow l clock r) (hm : mayAllF l = true) {x : Auc} (hx : x ∈ r) : x ∈ l ∧ dueF x clock = true := by
  rcases h with ⟨_, _, h2⟩ | ⟨h0, _⟩
  · have := h2.mem_iff.1 hx
    rw [List.mem_filter] at this
    exact this
  · rw [hm] at h0; cases h0
def dueN (l : List Auc) (clock : Int) (k : Nat) : Nat := ((List.range k).filter fun j => decide ((l.getD j default).fin ≤ clock)).length
theorem dueN_succ (l : List Auc) (clock : Int) (k : Nat) : dueN l clock (k + 1) = dueN l clock k + if (l.getD k default).fin ≤ clock then 1 else 0 := by
  unfold dueN
  rw [List.range_succ, List.filter_append, List.length_append]
  congr 1
  by_cases h : (l.getD k default).fin ≤ clock
  · rw [if_pos h, List.filter_cons_of_pos (by simpa using h)]; rfl
  · rw [if_neg h, List.filter_cons_of_neg (by simpa using h)]; rfl
theorem dueN_le (l : List Auc) (clock : Int) (k : Nat) : dueN l clock k ≤ k := by
  have := List.length_filter_le (fun j => decide ((l.getD j default).fin ≤ clock)) (List.range k)
  rwa [List.length_range] at this
theorem IsRow.len {l : List Auc} {clock : Int} {r : List Auc} (h : IsRow l clock r) (hm : mayAllF l = true) : r.length = dueN l clock l.length := by
  obtain ⟨_, hmay, _⟩ := mayAll_id hm
  rcases h with ⟨_, _, h2⟩ | ⟨h0, _⟩
  · rw [h2.length_eq, ← filter_range l fun x => dueF x clock, List.length_map]
    unfold dueN
    congr 1
    refine List.filter_congr fun j hj => ?_
    unfold dueF
    rw [hmay j (List.mem_range.1 hj), Bool.true_and]
  · rw [hm] at h0; cases h0
theorem filter_pre {c : Int} : ∀ {r : List Auc}, r.Pairwise ltA → r.filter (fun x => decide (x.fin ≤ c)) = r.take (r.filter fun x => decide (x.fin ≤ c)).length
  | [], _ => rfl
  | x :: t, h => by
    rw [List.pairwise_cons] at h
    by_cases hx : x.fin ≤ c
    · rw [List.filter_cons_of_pos (by simpa using hx), List.length_cons, List.take_succ_cons, ← filter_pre h.2]
    · have : (x :: t).filter (fun x => decide (x.fin ≤ c)) = [] := by
        rw [List.filter_eq_nil_iff]
        intro y hy
        rcases List.mem_cons.1 hy with rfl | hy
        · simpa using hx
        · have := h.1 y hy
          unfold ltA at this
          simp only [decide_eq_true_eq]
          omega
      rw [this]; rfl
theorem IsRow.pre {l : List Auc} {c c' : Int} {r r' : List Auc} (hm : mayAllF l = true) (h : IsRow l c r) (h' : IsRow l c' r') (hc : c ≤ c') : r = r'.take r.length ∧ r.length ≤ r'.length := by
  rcases h' with ⟨_, h1, h2⟩ | ⟨h0, _⟩
  · have hf : IsRow l c (r'.filter fun x => decide (x.fin ≤ c)) := by
      left
      refine ⟨hm, h1.filter _, (h2.filter _).trans ?_⟩
      rw [List.filter_filter]
      refine List.Perm.of_eq (List.filter_congr fun x _ => ?_)
      unfold dueF
      cases mayF x
      · simp
      · by_cases g : x.fin ≤ c
        · simp [g]; omega
        · simp [g]
    obtain rfl := h.uniq hf
    exact ⟨filter_pre h1, List.length_filter_le _ _⟩
  · rw [hm] at h0; cases h0
theorem IsRow.pw {l : List Auc} {clock : Int} {r : List Auc} (h : IsRow l clock r) : r.Pairwise ltA := by
  rcases h with ⟨_, h1, _⟩ | ⟨_, rfl⟩
  · exact h1
  · exact List.Pairwise.nil
def lastR (r : List Auc) (k : Nat) : Auc := if k = 0 then Auc.zero else r.getD (k - 1) default
theorem may_pos {x : Auc} (h : mayF x = true) : 1 ≤ x.id ∧ 1 ≤ x.fin := by
  unfold mayF at h
  simp only [Bool.and_eq_true, within, decide_eq_true_eq] at h
  omega
theorem last_lt {l : List Auc} {clock : Int} {r : List Auc} (h : IsRow l clock r) (hm : mayAllF l = true) {k : Nat} (hk : k < r.length) : ltA (lastR r k) (r.getD k default) := by
  unfold lastR
  have hx : r.getD k default ∈ r := by
    rw [List.getD_eq_getElem?_getD, List.getElem?_eq_getElem hk]; exact List.getElem_mem hk
  split
  · have h2 := (h.mem hm hx).2
    unfold dueF at h2
    simp only [Bool.and_eq_true] at h2
    have := may_pos h2.1
    unfold ltA Auc.zero
    simp only
    omega
  · have := List.pairwise_iff_getElem.1 h.pw (k - 1) k (by omega) hk (by omega)
    simpa [List.getD_eq_getElem?_getD, hk, show k - 1 < r.length by omega] using this
theorem Nums.take {F : Frag} {a : Option Addr} {cap k : Nat} {l : List Int} (h : Nums F a cap l) (hk : k ≤ l.length) : Nums F a cap (l.take k) := by
  obtain ⟨h1, h2, b, off, cs, T, fr, hs⟩ := h
  unfold Nums
  rw [List.length_take, Nat.min_eq_left hk]
  refine ⟨by omega, by omega, b, off, cs, T, fr, fun h0 => ?_⟩
  obtain ⟨e1, e2, e3⟩ := hs (by omega)
  refine ⟨e1, e2, fun j hj => ?_⟩
  obtain ⟨g1, g2⟩ := e3 j (by omega)
  refine ⟨g1, g2.trans ?_⟩
  unfold nel
  rw [List.getD_eq_getElem?_getD, List.getD_eq_getElem?_getD, List.getElem?_take, if_pos hj]
end Go.Proofs.Ytkcoemikglbomaa
