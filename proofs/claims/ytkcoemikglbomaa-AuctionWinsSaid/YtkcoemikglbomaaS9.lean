/- The auction's layer, walked: Row, whatever the list. -/
import Derived.Test.YtkcoemikglbomaaS8
import Derived.Test.YtkcoemikglbomaaS4
set_option linter.unusedSimpArgs false
set_option linter.unusedVariables false
namespace Go.Proofs.Ytkcoemikglbomaa
open Go Go.Sk Go.RowKit
attribute [local irreducible] Go.Calls
def ltA (x y : Auc) : Prop := x.fin < y.fin ∨ (x.fin = y.fin ∧ x.id < y.id)
/-- These are the auctions that are due, in their row. -/
def IsRow (l : List Auc) (clock : Int) (r : List Auc) : Prop :=
  (mayAllF l = true ∧ r.Pairwise ltA ∧ r.Perm (l.filter fun x => dueF x clock)) ∨ (mayAllF l = false ∧ r = [])
theorem IsRow.uniq {l : List Auc} {clock : Int} {r r' : List Auc} (h : IsRow l clock r) (h' : IsRow l clock r') : r = r' := by
  rcases h with ⟨h0, h1, h2⟩ | ⟨h0, h1⟩
  · rcases h' with ⟨_, k1, k2⟩ | ⟨k0, _⟩
    · exact List.Perm.eq_of_pairwise (le := ltA) (fun a b _ _ g1 g2 => by unfold ltA at *; omega) h1 k1 (h2.trans k2.symm)
    · rw [h0] at k0; cases k0
  · rcases h' with ⟨k0, _⟩ | ⟨_, k1⟩
    · rw [h0] at k0; cases k0
    · rw [h1, k1]
theorem range_getD {l : List Auc} : (List.range l.length).map (fun i => l.getD i default) = l := by
  apply List.ext_getElem
  · simp
  · intro i h1 h2
    simp at h1
    simp [h1]
theorem filter_range (l : List Auc) (q : Auc → Bool) : ((List.range l.length).filter fun i => q (l.getD i default)).map (fun i => l.getD i default) = l.filter q := by
  conv => rhs; rw [← range_getD (l := l), List.filter_map]
  rfl
theorem mayAll_id {l : List Auc} (h : mayAllF l = true) : l.length ≤ 32 ∧ (∀ i, i < l.length → mayF (l.getD i default) = true) ∧ ∀ i j, i < j → j < l.length → (l.getD i default).id < (l.getD j default).id := by
  simp only [mayAllF, Bool.and_eq_true, decide_eq_true_eq] at h
  have hb : ∀ k, k < l.length → badAuc l k = false := by
    rcases idx_cases (badAuc l) l.length with ⟨k, hk, _, _, hix⟩ | ⟨hall, _⟩
    · rw [hix] at h; omega
    · exact hall
  have hs : ∀ i, i + 1 < l.length → (l.getD i default).id < (l.getD (i + 1) default).id := by
    intro i hi
    have := hb (i + 1) hi
    simp only [badAuc, Bool.or_eq_false_iff, decide_eq_false_iff_not, Int.not_le] at this
    exact this.1
  refine ⟨by omega, fun i hi => ?_, fun i j hij => ?_⟩
  · have := hb i hi
    simp only [badAuc, Bool.or_eq_false_iff, Bool.not_eq_false'] at this
    exact this.2
  · induction j with
    | zero => omega
    | succ j ih =>
      intro hj
      rcases (show i = j ∨ i < j by omega) with rfl | h2
      · exact hs i hj
      · exact Int.lt_trans (ih h2 (by omega)) (hs j hj)
theorem seg_getD (d : Nat → AE) (n : Nat) : seg d 0 n = (List.range n).map d := by
  unfold seg
  rw [Nat.sub_zero]
  refine List.map_congr_left fun t _ => ?_
  rw [Nat.zero_add]
theorem kp_asc {p : Nat → Bool} {n i j : Nat} (h : i < j) (hj : j < (kp p n).length) : (kp p n).getD i 0 < (kp p n).getD j 0 := by
  have hp : (kp p n).Pairwise (· < ·) := (List.pairwise_lt_range).filter _
  rw [List.pairwise_iff_getElem] at hp
  have := hp i j (by omega) hj h
  simpa [List.getD_eq_getElem?_getD, List.getElem?_eq_getElem (show i < (kp p n).length by omega), List.getElem?_eq_getElem hj] using this
theorem kp_mem {p : Nat → Bool} {n i : Nat} (h : i < (kp p n).length) : (kp p n).getD i 0 < n ∧ p ((kp p n).getD i 0) = false := by
  have : (kp p n).getD i 0 ∈ kp p n := by
    rw [List.getD_eq_getElem?_getD, List.getElem?_eq_getElem h]
    exact List.getElem_mem h
  unfold kp at this ⊢
  simpa [List.mem_filter] using this
theorem row_is {l : List Auc} {ad : Nat → Option Addr × Nat} {clock : Int} {D : Nat → AE} (hm : mayAllF l = true) (h1 : Seg D 0 (rowN l clock)) (h2 : Pm (kept (fun j => !dueF (l.getD j default) clock) l.length (aed l ad)) D 0 (rowN l clock)) :
    IsRow l clock ((List.range (rowN l clock)).map fun t => (D t).1) := by
  left
  refine ⟨hm, ?_, ?_⟩
  · rw [List.pairwise_map]
    refine List.Pairwise.imp_of_mem (R := (· < ·)) (fun ha hb hab => ?_) List.pairwise_lt_range
    exact h1 _ _ (Nat.zero_le _) hab (List.mem_range.1 hb)
  · have := List.Perm.map (fun p : AE => p.1) h2
    rw [seg_getD, seg_getD, List.map_map, List.map_map] at this
    refine this.trans ?_
    have he : (List.range (rowN l clock)).map ((fun p : AE => p.1) ∘ kept (fun j => !dueF (l.getD j default) clock) l.length (aed l ad)) = l.filter fun x => dueF x clock := by
      rw [← filter_range l fun x => dueF x clock]
      have hk : kp (fun j => !dueF (l.getD j default) clock) l.length = (List.range l.length).filter fun i => dueF (l.getD i default) clock := by
        unfold kp; simp
      unfold rowN
      rw [hk]
      apply List.ext_getElem
      · simp
      · intro i g1 g2
        simp only [List.length_map, List.length_range] at g1
        simp only [List.getElem_map, List.getElem_range, Function.comp, kept, aed, hk]
        rw [List.getD_eq_getElem?_getD (l := List.filter _ _), List.getElem?_eq_getElem g1]
        rfl
    rw [he]
theorem c_RowNot {a : Option Addr} {cap : Nat} (l : List Auc) (ad : Nat → Option Addr × Nat) (clock : Int) {F : Frag} (w0 : World) (hF : Mem w0 F) (hs0 : Aucs F a cap l ad) (hm : mayAllF l = false) :
    Calls Try.prog 29 [.slice a l.length cap, .int .i64 clock].toArray w0 (Ret (.slice none 0 0) w0) := by
  refine enter [.tmp 4] Try.func29 rfl Try.ntmps29 rfl rfl ?_
  have H := St.start w0
  repeat' (first | refine y1 sg ?_ | refine y2 sg ?_ | refine y3 ?_ | refine y4 ?_ | refine y5 sg ?_ | refine y6 sg ?_ | refine y7 sg H ?_ | refine y8 sg H ?_ | (refine y9 H ?_; intro b w H) | (refine y10 sg H ?_; intro b w H) | (refine y11 sg H ?_; intro w H) | refine y12 ?_ | (refine' y30 ent32 ?_ ?_; rotate_left; exact c_MayAll l ad _ (H.memF hF) hs0; intro w hcl; replace H := H.ext hcl; clear hcl) | (refine' y31 ent32 ?_ ?_; rotate_left; exact (fun _ hcl => c_MayAll l ad _ ((H.ext hcl).memF hF) hs0)) | refine y13 ?_ | refine y14 ?_ | refine y15 ?_ | refine y16 ?_ | (refine y17 ?_ ?_; all_goals intro h) | (refine y18 ?_ ?_; all_goals intro h) | with_reducible apply OW.app | with_reducible apply OW.app0 | with_reducible apply QW.app | with_reducible apply QW.app0 | with_reducible apply OW.nil | (with_reducible apply QW.nil; intro w hcl; replace H := H.ext hcl; clear hcl) | refine y19 ?_ | with_reducible apply thn_n | with_reducible apply CW.seq | with_reducible apply CW.region | refine y20 mixed ?_ | with_reducible apply CW.block | with_reducible apply CW.ret | with_reducible apply CW.exit | with_reducible apply CW.skip | with_reducible apply thn_r | with_reducible apply thn_e | with_reducible apply blk_n | with_reducible apply blk_r | refine y24 ?_ | refine y25 ?_ | refine y21 ?_ | refine y22 ?_ | fail)
  refine CW.cond rfl (fun h => ?_) (fun h => ?_)
  · repeat' (first | refine y1 sg ?_ | refine y2 sg ?_ | refine y3 ?_ | refine y4 ?_ | refine y5 sg ?_ | refine y6 sg ?_ | refine y7 sg H ?_ | refine y8 sg H ?_ | (refine y9 H ?_; intro b w H) | (refine y10 sg H ?_; intro b w H) | (refine y11 sg H ?_; intro w H) | refine y12 ?_ | refine y13 ?_ | refine y14 ?_ | refine y15 ?_ | refine y16 ?_ | (refine y17 ?_ ?_; all_goals intro h) | (refine y18 ?_ ?_; all_goals intro h) | with_reducible apply OW.app | with_reducible apply OW.app0 | with_reducible apply QW.app | with_reducible apply QW.app0 | with_reducible apply OW.nil | (with_reducible apply QW.nil; intro w hcl; replace H := H.ext hcl; clear hcl) | refine y19 ?_ | with_reducible apply thn_n | with_reducible apply CW.seq | with_reducible apply CW.region | refine y20 mixed ?_ | with_reducible apply CW.block | with_reducible apply CW.ret | with_reducible apply CW.exit | with_reducible apply CW.skip | with_reducible apply thn_r | with_reducible apply thn_e | with_reducible apply blk_n | with_reducible apply blk_r | refine y24 ?_ | refine y25 ?_ | refine y21 ?_ | refine y22 ?_ | fail)
    exact ret1 rfl H.cl rfl
  · rw [hm] at h; cases h
set_option maxHeartbeats 4000000 in
/-- Row over no auction at all. -/
theorem c_Row0 {a : Option Addr} {cap : Nat} (clock : Int) {F : Frag} (w0 : World) (hF : Mem w0 F) (hs0 : Aucs F a cap [] fun _ => (none, 0)) :
    Calls Try.prog 29 [.slice a 0 cap, .int .i64 clock].toArray w0 (RetF (fun M v => ∃ a' cap', v = .slice a' 0 cap' ∧ OwnI M a' cap' []) w0) := by
  have c_Index0 : ∀ {a : Option Addr} {cap : Nat} {b : Nat} {w : World}, Calls Try.prog 55 [.slice a 0 cap, .func (.func 51) #[] #[.pointer (some ⟨b, 0, none⟩)]].toArray w (Ret (.int .i64 (-1)) w) := by
    intro a cap b w
    refine enter [.tmp 4] Try.func55 rfl Try.ntmps55 rfl rfl ?_
    have H := St.start w
    repeat' (first | refine y1 sg ?_ | refine y2 sg ?_ | refine y3 ?_ | refine y4 ?_ | refine y5 sg ?_ | refine y6 sg ?_ | refine y7 sg H ?_ | refine y8 sg H ?_ | (refine y9 H ?_; intro b w H) | (refine y10 sg H ?_; intro b w H) | (refine y11 sg H ?_; intro w H) | refine y12 ?_ | refine y13 ?_ | refine y14 ?_ | refine y15 ?_ | refine y16 ?_ | (refine y17 ?_ ?_; all_goals intro h) | (refine y18 ?_ ?_; all_goals intro h) | with_reducible apply OW.app | with_reducible apply OW.app0 | with_reducible apply QW.app | with_reducible apply QW.app0 | with_reducible apply OW.nil | (with_reducible apply QW.nil; intro w hcl; replace H := H.ext hcl; clear hcl) | refine y19 ?_ | with_reducible apply thn_n | with_reducible apply CW.seq | with_reducible apply CW.region | refine y20 mixed ?_ | with_reducible apply CW.block | with_reducible apply CW.ret | with_reducible apply CW.exit | with_reducible apply CW.skip | with_reducible apply thn_r | with_reducible apply thn_e | with_reducible apply blk_n | with_reducible apply blk_r | refine y24 ?_ | refine y25 ?_ | refine y21 ?_ | refine y22 ?_ | fail)
    refine CW.loopI [(4, 5), (8, 18)] (fun _ : Unit => [(8, .int .i64 0)]) (fun _ w' => St w [] w') (fun _ => 0) () ⟨rfl, trivial⟩ H ?_
    clear H
    rintro _ gh w H
    repeat' (first | refine y1 sg ?_ | refine y2 sg ?_ | refine y3 ?_ | refine y4 ?_ | refine y5 sg ?_ | refine y6 sg ?_ | refine y7 sg H ?_ | refine y8 sg H ?_ | (refine y9 H ?_; intro b w H) | (refine y10 sg H ?_; intro b w H) | (refine y11 sg H ?_; intro w H) | refine y12 ?_ | refine y13 ?_ | refine y14 ?_ | refine y15 ?_ | refine y16 ?_ | (refine y17 ?_ ?_; all_goals intro h) | (refine y18 ?_ ?_; all_goals intro h) | with_reducible apply OW.app | with_reducible apply OW.app0 | with_reducible apply QW.app | with_reducible apply QW.app0 | with_reducible apply OW.nil | (with_reducible apply QW.nil; intro w hcl; replace H := H.ext hcl; clear hcl) | refine y19 ?_ | with_reducible apply thn_n | with_reducible apply CW.seq | with_reducible apply CW.region | refine y20 mixed ?_ | with_reducible apply CW.block | with_reducible apply CW.ret | with_reducible apply CW.exit | with_reducible apply CW.skip | with_reducible apply thn_r | with_reducible apply thn_e | with_reducible apply blk_n | with_reducible apply blk_r | refine y24 ?_ | refine y25 ?_ | refine y21 ?_ | refine y22 ?_ | fail)
    exact ret1 rfl H.cl rfl
  have c_Del0 : ∀ {a : Option Addr} {cap : Nat} {b : Nat} {w : World}, Calls Try.prog 49 [.slice a 0 cap, .func (.func 51) #[] #[.pointer (some ⟨b, 0, none⟩)]].toArray w (Ret (.slice a 0 cap) w) := by
    intro a cap b w
    refine enter [.tmp 4] Try.func49 rfl Try.ntmps49 rfl rfl ?_
    have H := St.start w
    repeat' (first | refine y1 sg ?_ | refine y2 sg ?_ | refine y3 ?_ | refine y4 ?_ | refine y5 sg ?_ | refine y6 sg ?_ | refine y7 sg H ?_ | refine y8 sg H ?_ | (refine y9 H ?_; intro b w H) | (refine y10 sg H ?_; intro b w H) | (refine y11 sg H ?_; intro w H) | refine y12 ?_ | (refine' y30 ent55 ?_ ?_; rotate_left; exact c_Index0; intro w hcl; replace H := H.ext hcl; clear hcl) | (refine' y31 ent55 ?_ ?_; rotate_left; exact (fun _ hcl => c_Index0)) | refine y13 ?_ | refine y14 ?_ | refine y15 ?_ | refine y16 ?_ | (refine y17 ?_ ?_; all_goals intro h) | (refine y18 ?_ ?_; all_goals intro h) | with_reducible apply OW.app | with_reducible apply OW.app0 | with_reducible apply QW.app | with_reducible apply QW.app0 | with_reducible apply OW.nil | (with_reducible apply QW.nil; intro w hcl; replace H := H.ext hcl; clear hcl) | refine y19 ?_ | with_reducible apply thn_n | with_reducible apply CW.seq | with_reducible apply CW.region | refine y20 mixed ?_ | with_reducible apply CW.block | with_reducible apply CW.ret | with_reducible apply CW.exit | with_reducible apply CW.skip | with_reducible apply thn_r | with_reducible apply thn_e | with_reducible apply blk_n | with_reducible apply blk_r | refine y24 ?_ | refine y25 ?_ | refine y21 ?_ | refine y22 ?_ | fail)
    exact ret1 rfl H.cl rfl
  have c_ins0 : ∀ {a : Option Addr} {cap : Nat} {w : World}, Calls Try.prog 65 [.slice a 0 cap, .int .i64 0, .int .i64 0, .func (.func 53) #[] #[]].toArray w (Ret (.tuple #[]) w) := by
    intro a cap w
    refine enter [] Try.func65 rfl Try.ntmps65 rfl rfl ?_
    have H := St.start w
    repeat' (first | refine y1 sg ?_ | refine y2 sg ?_ | refine y3 ?_ | refine y4 ?_ | refine y5 sg ?_ | refine y6 sg ?_ | refine y7 sg H ?_ | refine y8 sg H ?_ | (refine y9 H ?_; intro b w H) | (refine y10 sg H ?_; intro b w H) | (refine y11 sg H ?_; intro w H) | refine y12 ?_ | refine y13 ?_ | refine y14 ?_ | refine y15 ?_ | refine y16 ?_ | (refine y17 ?_ ?_; all_goals intro h) | (refine y18 ?_ ?_; all_goals intro h) | with_reducible apply OW.app | with_reducible apply OW.app0 | with_reducible apply QW.app | with_reducible apply QW.app0 | with_reducible apply OW.nil | (with_reducible apply QW.nil; intro w hcl; replace H := H.ext hcl; clear hcl) | refine y19 ?_ | with_reducible apply thn_n | with_reducible apply CW.seq | with_reducible apply CW.region | refine y20 mixed ?_ | with_reducible apply CW.block | with_reducible apply CW.ret | with_reducible apply CW.exit | with_reducible apply CW.skip | with_reducible apply thn_r | with_reducible apply thn_e | with_reducible apply blk_n | with_reducible apply blk_r | refine y24 ?_ | refine y25 ?_ | refine y21 ?_ | refine y22 ?_ | fail)
    refine CW.loopI [(8, 9), (12, 52)] (fun _ : Unit => [(8, .int .i64 1)]) (fun _ w' => St w [] w') (fun _ => 0) () ⟨rfl, trivial⟩ H ?_
    clear H
    rintro _ gh w H
    repeat' (first | refine y1 sg ?_ | refine y2 sg ?_ | refine y3 ?_ | refine y4 ?_ | refine y5 sg ?_ | refine y6 sg ?_ | refine y7 sg H ?_ | refine y8 sg H ?_ | (refine y9 H ?_; intro b w H) | (refine y10 sg H ?_; intro b w H) | (refine y11 sg H ?_; intro w H) | refine y12 ?_ | refine y13 ?_ | refine y14 ?_ | refine y15 ?_ | refine y16 ?_ | (refine y17 ?_ ?_; all_goals intro h) | (refine y18 ?_ ?_; all_goals intro h) | with_reducible apply OW.app | with_reducible apply OW.app0 | with_reducible apply QW.app | with_reducible apply QW.app0 | with_reducible apply OW.nil | (with_reducible apply QW.nil; intro w hcl; replace H := H.ext hcl; clear hcl) | refine y19 ?_ | with_reducible apply thn_n | with_reducible apply CW.seq | with_reducible apply CW.region | refine y20 mixed ?_ | with_reducible apply CW.block | with_reducible apply CW.ret | with_reducible apply CW.exit | with_reducible apply CW.skip | with_reducible apply thn_r | with_reducible apply thn_e | with_reducible apply blk_n | with_reducible apply blk_r | refine y24 ?_ | refine y25 ?_ | refine y21 ?_ | refine y22 ?_ | fail)
    exact retVn (vs := []) trivial H.cl rfl
  have c_sta0 : ∀ {a : Option Addr} {cap : Nat} {w1 : World}, Calls Try.prog 61 [.slice a 0 cap, .int .i64 0, .func (.func 53) #[] #[]].toArray w1 (Ret (.tuple #[]) w1) := by
    intro a cap w1
    refine enter [] Try.func61 rfl Try.ntmps61 rfl rfl ?_
    have H := St.start w1
    repeat' (first | refine y1 sg ?_ | refine y2 sg ?_ | refine y3 ?_ | refine y4 ?_ | refine y5 sg ?_ | refine y6 sg ?_ | refine y7 sg H ?_ | refine y8 sg H ?_ | (refine y9 H ?_; intro b w H) | (refine y10 sg H ?_; intro b w H) | (refine y11 sg H ?_; intro w H) | refine y12 ?_ | refine y13 ?_ | refine y14 ?_ | refine y15 ?_ | refine y16 ?_ | (refine y17 ?_ ?_; all_goals intro h) | (refine y18 ?_ ?_; all_goals intro h) | with_reducible apply OW.app | with_reducible apply OW.app0 | with_reducible apply QW.app | with_reducible apply QW.app0 | with_reducible apply OW.nil | (with_reducible apply QW.nil; intro w hcl; replace H := H.ext hcl; clear hcl) | refine y19 ?_ | with_reducible apply thn_n | with_reducible apply CW.seq | with_reducible apply CW.region | refine y20 mixed ?_ | with_reducible apply CW.block | with_reducible apply CW.ret | with_reducible apply CW.exit | with_reducible apply CW.skip | with_reducible apply thn_r | with_reducible apply thn_e | with_reducible apply blk_n | with_reducible apply blk_r | refine y24 ?_ | refine y25 ?_ | refine y21 ?_ | refine y22 ?_ | fail)
    refine CW.loopI [(7, 8), (11, 22)] (fun _ : Unit => [(7, .int .i64 0), (8, .int .i64 20)]) (fun _ w' => St w1 [] w') (fun _ => 0) () ⟨rfl, rfl, trivial⟩ H ?_
    clear H
    rintro _ gh w H
    repeat' (first | refine y1 sg ?_ | refine y2 sg ?_ | refine y3 ?_ | refine y4 ?_ | refine y5 sg ?_ | refine y6 sg ?_ | refine y7 sg H ?_ | refine y8 sg H ?_ | (refine y9 H ?_; intro b w H) | (refine y10 sg H ?_; intro b w H) | (refine y11 sg H ?_; intro w H) | refine y12 ?_ | (refine' y30 ent65 ?_ ?_; rotate_left; exact c_ins0; intro w hcl; replace H := H.ext hcl; clear hcl) | (refine' y31 ent65 ?_ ?_; rotate_left; exact (fun _ hcl => c_ins0)) | refine y13 ?_ | refine y14 ?_ | refine y15 ?_ | refine y16 ?_ | (refine y17 ?_ ?_; all_goals intro h) | (refine y18 ?_ ?_; all_goals intro h) | with_reducible apply OW.app | with_reducible apply OW.app0 | with_reducible apply QW.app | with_reducible apply QW.app0 | with_reducible apply OW.nil | (with_reducible apply QW.nil; intro w hcl; replace H := H.ext hcl; clear hcl) | refine y19 ?_ | with_reducible apply thn_n | with_reducible apply CW.seq | with_reducible apply CW.region | refine y20 mixed ?_ | with_reducible apply CW.block | with_reducible apply CW.ret | with_reducible apply CW.exit | with_reducible apply CW.skip | with_reducible apply thn_r | with_reducible apply thn_e | with_reducible apply blk_n | with_reducible apply blk_r | refine y24 ?_ | refine y25 ?_ | refine y21 ?_ | refine y22 ?_ | fail)
    refine CW.loopI [(6, 9), (28, 62)] (fun _ : Unit => [(6, .int .i64 20)]) (fun _ w' => St w1 [] w') (fun _ => 0) () ⟨rfl, trivial⟩ H ?_
    clear H
    rintro _ gh w H
    repeat' (first | refine y1 sg ?_ | refine y2 sg ?_ | refine y3 ?_ | refine y4 ?_ | refine y5 sg ?_ | refine y6 sg ?_ | refine y7 sg H ?_ | refine y8 sg H ?_ | (refine y9 H ?_; intro b w H) | (refine y10 sg H ?_; intro b w H) | (refine y11 sg H ?_; intro w H) | refine y12 ?_ | refine y13 ?_ | refine y14 ?_ | refine y15 ?_ | refine y16 ?_ | (refine y17 ?_ ?_; all_goals intro h) | (refine y18 ?_ ?_; all_goals intro h) | with_reducible apply OW.app | with_reducible apply OW.app0 | with_reducible apply QW.app | with_reducible apply QW.app0 | with_reducible apply OW.nil | (with_reducible apply QW.nil; intro w hcl; replace H := H.ext hcl; clear hcl) | refine y19 ?_ | with_reducible apply thn_n | with_reducible apply CW.seq | with_reducible apply CW.region | refine y20 mixed ?_ | with_reducible apply CW.block | with_reducible apply CW.ret | with_reducible apply CW.exit | with_reducible apply CW.skip | with_reducible apply thn_r | with_reducible apply thn_e | with_reducible apply blk_n | with_reducible apply blk_r | refine y24 ?_ | refine y25 ?_ | refine y21 ?_ | refine y22 ?_ | fail)
    exact retVn (vs := []) trivial H.cl rfl
  have c_sort0 : ∀ {a : Option Addr} {cap : Nat} {w : World}, Calls Try.prog 52 [.slice a 0 cap, .func (.func 53) #[] #[]].toArray w (Ret (.tuple #[]) w) := by
    intro a cap w
    refine enter [] Try.func52 rfl Try.ntmps52 rfl rfl ?_
    have H := St.start w
    repeat' (first | refine y1 sg ?_ | refine y2 sg ?_ | refine y3 ?_ | refine y4 ?_ | refine y5 sg ?_ | refine y6 sg ?_ | refine y7 sg H ?_ | refine y8 sg H ?_ | (refine y9 H ?_; intro b w H) | (refine y10 sg H ?_; intro b w H) | (refine y11 sg H ?_; intro w H) | refine y12 ?_ | (refine' y30 ent61 ?_ ?_; rotate_left; exact c_sta0; intro w hcl; replace H := H.ext hcl; clear hcl) | (refine' y31 ent61 ?_ ?_; rotate_left; exact (fun _ hcl => c_sta0)) | (refine' y36 ent61 ?_ ?_; rotate_left; exact c_sta0; intro w hcl; replace H := H.ext hcl; clear hcl) | refine y13 ?_ | refine y14 ?_ | refine y15 ?_ | refine y16 ?_ | (refine y17 ?_ ?_; all_goals intro h) | (refine y18 ?_ ?_; all_goals intro h) | with_reducible apply OW.app | with_reducible apply OW.app0 | with_reducible apply QW.app | with_reducible apply QW.app0 | with_reducible apply OW.nil | (with_reducible apply QW.nil; intro w hcl; replace H := H.ext hcl; clear hcl) | refine y19 ?_ | with_reducible apply thn_n | with_reducible apply CW.seq | with_reducible apply CW.region | refine y20 mixed ?_ | with_reducible apply CW.block | with_reducible apply CW.ret | with_reducible apply CW.exit | with_reducible apply CW.skip | with_reducible apply thn_r | with_reducible apply thn_e | with_reducible apply blk_n | with_reducible apply blk_r | refine y24 ?_ | refine y25 ?_ | refine y21 ?_ | refine y22 ?_ | fail)
    exact retVn (vs := []) trivial H.cl rfl
  refine enter [.tmp 4] Try.func29 rfl Try.ntmps29 rfl rfl ?_
  have H := St.start w0
  repeat' (first | refine y1 sg ?_ | refine y2 sg ?_ | refine y3 ?_ | refine y4 ?_ | refine y5 sg ?_ | refine y6 sg ?_ | refine y7 sg H ?_ | refine y8 sg H ?_ | (refine y9 H ?_; intro b w H) | (refine y10 sg H ?_; intro b w H) | (refine y11 sg H ?_; intro w H) | refine y12 ?_ | (refine' y30 ent32 ?_ ?_; rotate_left; exact c_MayAll [] (fun _ => (none, 0)) _ (H.memF hF) hs0; intro w hcl; replace H := H.ext hcl; clear hcl) | (refine' y31 ent32 ?_ ?_; rotate_left; exact (fun _ hcl => c_MayAll [] (fun _ => (none, 0)) _ ((H.ext hcl).memF hF) hs0)) | refine y13 ?_ | refine y14 ?_ | refine y15 ?_ | refine y16 ?_ | (refine y17 ?_ ?_; all_goals intro h) | (refine y18 ?_ ?_; all_goals intro h) | with_reducible apply OW.app | with_reducible apply OW.app0 | with_reducible apply QW.app | with_reducible apply QW.app0 | with_reducible apply OW.nil | (with_reducible apply QW.nil; intro w hcl; replace H := H.ext hcl; clear hcl) | refine y19 ?_ | with_reducible apply thn_n | with_reducible apply CW.seq | with_reducible apply CW.region | refine y20 mixed ?_ | with_reducible apply CW.block | with_reducible apply CW.ret | with_reducible apply CW.exit | with_reducible apply CW.skip | with_reducible apply thn_r | with_reducible apply thn_e | with_reducible apply blk_n | with_reducible apply blk_r | refine y24 ?_ | refine y25 ?_ | refine y21 ?_ | refine y22 ?_ | fail)
  repeat' (first | refine y1 sg ?_ | refine y2 sg ?_ | refine y3 ?_ | refine y4 ?_ | refine y5 sg ?_ | refine y6 sg ?_ | refine y7 sg H ?_ | refine y8 sg H ?_ | (refine y9 H ?_; intro b w H) | (refine y10 sg H ?_; intro b w H) | (refine y11 sg H ?_; intro w H) | refine y12 ?_ | (refine' y32 ent50 ?_ ?_; rotate_left; exact c_CloneAuc (n := 0) _ (H.memF hF) hs0.1 (fun j hj => absurd hj (Nat.not_lt_zero _)) (fun j hj => absurd hj (Nat.not_lt_zero _)) (by omega); intro v M w hR hS; replace H := H.addR hS; clear hS; (try simp only [List.cons_append, List.nil_append] at H); obtain ⟨a', cap', rfl, hO⟩ := hR) | (refine' y30 ent49 ?_ ?_; rotate_left; exact c_Del0; intro w hcl; replace H := H.ext hcl; clear hcl) | (refine' y31 ent49 ?_ ?_; rotate_left; exact (fun _ hcl => c_Del0)) | (refine' y30 ent52 ?_ ?_; rotate_left; exact c_sort0; intro w hcl; replace H := H.ext hcl; clear hcl) | (refine' y31 ent52 ?_ ?_; rotate_left; exact (fun _ hcl => c_sort0)) | (refine' y36 ent52 ?_ ?_; rotate_left; exact c_sort0; intro w hcl; replace H := H.ext hcl; clear hcl) | refine y13 ?_ | refine y14 ?_ | refine y15 ?_ | refine y16 ?_ | (refine y17 ?_ ?_; all_goals intro h) | (refine y18 ?_ ?_; all_goals intro h) | with_reducible apply OW.app | with_reducible apply OW.app0 | with_reducible apply QW.app | with_reducible apply QW.app0 | with_reducible apply OW.nil | (with_reducible apply QW.nil; intro w hcl; replace H := H.ext hcl; clear hcl) | refine y19 ?_ | with_reducible apply thn_n | with_reducible apply CW.seq | with_reducible apply CW.region | refine y20 mixed ?_ | with_reducible apply CW.block | with_reducible apply CW.ret | with_reducible apply CW.exit | with_reducible apply CW.skip | with_reducible apply thn_r | with_reducible apply thn_e | with_reducible apply blk_n | with_reducible apply blk_r | refine y24 ?_ | refine y25 ?_ | refine y21 ?_ | refine y22 ?_ | fail)
  refine CW.loopI [(6, 6), (8, 8), (20, 29)] (fun _ : Unit => [(6, .slice none 0 0), (20, .int .i64 0)]) (fun _ w => St w0 (cb b [Value.int .i64 clock] 2 :: M) w) (fun _ => 0) () ⟨rfl, rfl, trivial⟩ H ?_
  clear H
  rintro _ gh w H
  repeat' (first | refine y1 sg ?_ | refine y2 sg ?_ | refine y3 ?_ | refine y4 ?_ | refine y5 sg ?_ | refine y6 sg ?_ | refine y7 sg H ?_ | refine y8 sg H ?_ | (refine y9 H ?_; intro b w H) | (refine y10 sg H ?_; intro b w H) | (refine y11 sg H ?_; intro w H) | refine y12 ?_ | refine y13 ?_ | refine y14 ?_ | refine y15 ?_ | refine y16 ?_ | (refine y17 ?_ ?_; all_goals intro h) | (refine y18 ?_ ?_; all_goals intro h) | with_reducible apply OW.app | with_reducible apply OW.app0 | with_reducible apply QW.app | with_reducible apply QW.app0 | with_reducible apply OW.nil | (with_reducible apply QW.nil; intro w hcl; replace H := H.ext hcl; clear hcl) | refine y19 ?_ | with_reducible apply thn_n | with_reducible apply CW.seq | with_reducible apply CW.region | refine y20 mixed ?_ | with_reducible apply CW.block | with_reducible apply CW.ret | with_reducible apply CW.exit | with_reducible apply CW.skip | with_reducible apply thn_r | with_reducible apply thn_e | with_reducible apply blk_n | with_reducible apply blk_r | refine y24 ?_ | refine y25 ?_ | refine y21 ?_ | refine y22 ?_ | fail)
  exact retVF (vs := [_]) (M := []) ⟨rdvT rfl, trivial⟩ (H.sub (List.nil_sublist _)) ⟨none, 0, rfl, Own.nil _ _ _⟩
set_option maxHeartbeats 4000000 in
theorem c_RowA {a : Option Addr} {cap : Nat} (l : List Auc) (ad : Nat → Option Addr × Nat) (clock : Int) {F : Frag} (w0 : World) (hF : Mem w0 F) (hs0 : Aucs F a cap l ad) :
    Calls Try.prog 29 [.slice a l.length cap, .int .i64 clock].toArray w0 (RetF (fun M v => ∃ r a' cap', IsRow l clock r ∧ v = .slice a' r.length cap' ∧ OwnI M a' cap' (r.map (·.id))) w0) := by
  cases hm : mayAllF l with
  | false => exact (c_RowNot l ad clock w0 hF hs0 hm).mono fun e w' ⟨he, hc⟩ => ⟨_, [], he, ⟨[], none, 0, .inr ⟨hm, rfl⟩, rfl, Own.nil _ _ _⟩, (St.start w0).ext hc⟩
  | true =>
  obtain ⟨h32, hall, hasc⟩ := mayAll_id hm
  rcases Nat.eq_zero_or_pos l.length with h0 | h0
  · obtain rfl : l = [] := List.eq_nil_of_length_eq_zero h0
    refine (c_Row0 clock w0 hF (show Aucs F a cap [] fun _ => (none, 0) from ⟨⟨hs0.1.1, hs0.1.2.1, 0, 0, [], 0, (0, 0), fun h => absurd h (Nat.lt_irrefl 0)⟩, fun j hj => absurd hj (Nat.not_lt_zero _)⟩)).mono fun e w' ⟨v, M, he, ⟨a', cap', hv, hO⟩, hs⟩ => ⟨v, M, he, ⟨[], a', cap', .inl ⟨hm, List.Pairwise.nil, List.Perm.refl _⟩, hv, hO⟩, hs⟩
  refine enter [.tmp 4] Try.func29 rfl Try.ntmps29 rfl rfl ?_
  have H := St.start w0
  repeat' (first | refine y1 sg ?_ | refine y2 sg ?_ | refine y3 ?_ | refine y4 ?_ | refine y5 sg ?_ | refine y6 sg ?_ | refine y7 sg H ?_ | refine y8 sg H ?_ | (refine y9 H ?_; intro b w H) | (refine y10 sg H ?_; intro b w H) | (refine y11 sg H ?_; intro w H) | refine y12 ?_ | (refine' y30 ent32 ?_ ?_; rotate_left; exact c_MayAll l ad _ (H.memF hF) hs0; intro w hcl; replace H := H.ext hcl; clear hcl) | (refine' y31 ent32 ?_ ?_; rotate_left; exact (fun _ hcl => c_MayAll l ad _ ((H.ext hcl).memF hF) hs0)) | refine y13 ?_ | refine y14 ?_ | refine y15 ?_ | refine y16 ?_ | (refine y17 ?_ ?_; all_goals intro h) | (refine y18 ?_ ?_; all_goals intro h) | with_reducible apply OW.app | with_reducible apply OW.app0 | with_reducible apply QW.app | with_reducible apply QW.app0 | with_reducible apply OW.nil | (with_reducible apply QW.nil; intro w hcl; replace H := H.ext hcl; clear hcl) | refine y19 ?_ | with_reducible apply thn_n | with_reducible apply CW.seq | with_reducible apply CW.region | refine y20 mixed ?_ | with_reducible apply CW.block | with_reducible apply CW.ret | with_reducible apply CW.exit | with_reducible apply CW.skip | with_reducible apply thn_r | with_reducible apply thn_e | with_reducible apply blk_n | with_reducible apply blk_r | refine y24 ?_ | refine y25 ?_ | refine y21 ?_ | refine y22 ?_ | fail)
  refine CW.cond rfl (fun h => ?_) (fun h => ?_)
  · rw [hm] at h; cases h
  clear h
  repeat' (first | refine y1 sg ?_ | refine y2 sg ?_ | refine y3 ?_ | refine y4 ?_ | refine y5 sg ?_ | refine y6 sg ?_ | refine y7 sg H ?_ | refine y8 sg H ?_ | (refine y9 H ?_; intro b w H) | (refine y10 sg H ?_; intro b w H) | (refine y11 sg H ?_; intro w H) | refine y12 ?_ | (refine' y32 ent50 ?_ ?_; rotate_left; exact c_CloneAuc _ (H.memF hF) hs0.1 (fun j _ => AE.c_one (aed l ad j)) (fun j _ => rfl) (by omega); intro v M w hR hS; replace H := H.addR hS; clear hS; (try simp only [List.cons_append, List.nil_append] at H); obtain ⟨a', cap', rfl, hO⟩ := hR) | refine y13 ?_ | refine y14 ?_ | refine y15 ?_ | refine y16 ?_ | (refine y17 ?_ ?_; all_goals intro h) | (refine y18 ?_ ?_; all_goals intro h) | with_reducible apply OW.app | with_reducible apply OW.app0 | with_reducible apply QW.app | with_reducible apply QW.app0 | with_reducible apply OW.nil | (with_reducible apply QW.nil; intro w hcl; replace H := H.ext hcl; clear hcl) | refine y19 ?_ | with_reducible apply thn_n | with_reducible apply CW.seq | with_reducible apply CW.region | refine y20 mixed ?_ | with_reducible apply CW.block | with_reducible apply CW.ret | with_reducible apply CW.exit | with_reducible apply CW.skip | with_reducible apply thn_r | with_reducible apply thn_e | with_reducible apply blk_n | with_reducible apply blk_r | refine y24 ?_ | refine y25 ?_ | refine y21 ?_ | refine y22 ?_ | fail)
  obtain ⟨g, cs, rfl, rfl, hnc, he⟩ := hO.els h0 (fun j _ => rfl)
  clear hO
  replace H := H.perm (List.Perm.swap _ _ _)
  have hkl := kp_len (fun j => !dueF (l.getD j default) clock) l.length
  have hA : Asc (kept (fun j => !dueF (l.getD j default) clock) l.length (aed l ad)) 0 (kp (fun j => !dueF (l.getD j default) clock) l.length).length := fun p q g1 g2 g3 => hasc _ _ (kp_asc g2 g3) (kp_mem g3).1
  repeat' (first | refine y1 sg ?_ | refine y2 sg ?_ | refine y3 ?_ | refine y4 ?_ | refine y5 sg ?_ | refine y6 sg ?_ | refine y7 sg H ?_ | refine y8 sg H ?_ | (refine y9 H ?_; intro b w H) | (refine y10 sg H ?_; intro b w H) | (refine y11 sg H ?_; intro w H) | refine y12 ?_ | (refine' y33 ent49 ?_ ?_; rotate_left 2; exact c_DeleteAuc (n := l.length) (d := aed l ad) (caps := [.pointer (some ⟨b, 0, none⟩)]) (fun j => !dueF (l.getD j default) clock) H he (by omega) hnc ent51 (fun j hj L cs' w' H' => c_Row1 (l.getD j default) clock w' (H'.all hF) ((hs0.2 j hj).mono (List.subset_append_right _ _)) (List.mem_append_left _ (List.mem_append_right _ (List.Mem.tail _ (List.Mem.head _))))); rintro _ _ w ⟨rfl, cs2, rfl, hl2, he2⟩ H2; clear H; have H := H2; clear H2) | (refine' y33 ent52 ?_ ?_; rotate_left 2; exact c_SortStable2 ⟨H, rfl, he2⟩ (by omega) hA; rintro _ _ w ⟨rfl, D, cs3, rfl, hl3, he3, hD1, hD2, hD3⟩ H2; clear H; have H := H2; clear H2) | refine y13 ?_ | refine y14 ?_ | refine y15 ?_ | refine y16 ?_ | (refine y17 ?_ ?_; all_goals intro h) | (refine y18 ?_ ?_; all_goals intro h) | with_reducible apply OW.app | with_reducible apply OW.app0 | with_reducible apply QW.app | with_reducible apply QW.app0 | with_reducible apply OW.nil | (with_reducible apply QW.nil; intro w hcl; replace H := H.ext hcl; clear hcl) | refine y19 ?_ | with_reducible apply thn_n | with_reducible apply CW.seq | with_reducible apply CW.region | refine y20 mixed ?_ | with_reducible apply CW.block | with_reducible apply CW.ret | with_reducible apply CW.exit | with_reducible apply CW.skip | with_reducible apply thn_r | with_reducible apply thn_e | with_reducible apply blk_n | with_reducible apply blk_r | refine y24 ?_ | refine y25 ?_ | refine y21 ?_ | refine y22 ?_ | fail)
  change Els cs3 9 (rowN l clock) (fun t => (D t).c) at he3
  change (rowN l clock) ≤ l.length at hkl
  change Seg D 0 (rowN l clock) at hD1
  have hrow := row_is (ad := ad) hm hD1 hD3
  refine CW.loopI [(6, 6), (8, 8), (20, 29)] (fun x : Nat × Option Addr × Nat × Frag => [(6, .slice x.2.1 x.1 x.2.2.1), (20, .int .i64 (x.1 : Int))])
    (fun x w => x.1 ≤ rowN l clock ∧ Own x.2.2.2 2 1 x.2.1 x.1 x.2.2.1 ((List.range x.1).map fun t => Value.int .i64 (D t).1.id) ∧ St w0 (x.2.2.2 ++ [cb g cs3 24, cb b [Value.int .i64 clock] 2]) w)
    (fun x => rowN l clock - x.1) (0, none, 0, []) ⟨rfl, rfl, trivial⟩ ⟨Nat.zero_le _, Own.nil _ _ _, H⟩ ?_
  clear H he2
  rintro ⟨k, a1, cap1, M1⟩ gh w ⟨hk, hO, H⟩
  simp only at hk hO H ⊢
  repeat' (first | refine y1 sg ?_ | refine y2 sg ?_ | refine y3 ?_ | refine y4 ?_ | refine y5 sg ?_ | refine y6 sg ?_ | refine y7 sg H ?_ | refine y8 sg H ?_ | (refine y9 H ?_; intro b w H) | (refine y10 sg H ?_; intro b w H) | (refine y11 sg H ?_; intro w H) | refine y12 ?_ | refine y13 ?_ | refine y14 ?_ | refine y15 ?_ | refine y16 ?_ | (refine y17 ?_ ?_; all_goals intro h) | (refine y18 ?_ ?_; all_goals intro h) | with_reducible apply OW.app | with_reducible apply OW.app0 | with_reducible apply QW.app | with_reducible apply QW.app0 | with_reducible apply OW.nil | (with_reducible apply QW.nil; intro w hcl; replace H := H.ext hcl; clear hcl) | refine y19 ?_ | with_reducible apply thn_n | with_reducible apply CW.seq | with_reducible apply CW.region | refine y20 mixed ?_ | with_reducible apply CW.block | with_reducible apply CW.ret | with_reducible apply CW.exit | with_reducible apply CW.skip | with_reducible apply thn_r | with_reducible apply thn_e | with_reducible apply blk_n | with_reducible apply blk_r | refine y24 ?_ | refine y25 ?_ | refine y21 ?_ | refine y22 ?_ | fail)
  refine CW.cond rfl (fun h => ?_) (fun h => ?_)
  · have hlt : k < rowN l clock := by have := of_decide_eq_true h; unfold rowN; omega
    have hs := he3.slb (F := M1 ++ [cb g cs3 24, cb b [Value.int .i64 clock] 2]) (T := 24) (g := g) (List.mem_append_right _ (List.Mem.head _))
    repeat' (first | refine y1 sg ?_ | refine y2 sg ?_ | refine y3 ?_ | refine y4 ?_ | refine y5 sg ?_ | refine y6 sg ?_ | refine y7 sg H ?_ | refine y8 sg H ?_ | (refine y9 H ?_; intro b w H) | (refine y10 sg H ?_; intro b w H) | (refine y11 sg H ?_; intro w H) | refine y12 ?_ | (refine y40 sg (hs) ?_ ?_ ?_; (omega); (omega)) | (refine y41 sg (hs) ?_ ?_ ?_; (omega); (omega)) | (refine y42 sg (hs) (H.mem) ?_ ?_; (omega)) | (refine y43 sg (hs) (H.mem) ?_ ?_; (omega)) | ((with_reducible apply OX.buildS sg H); exact rfl; exact rfl; exact rfl; exact rfl; exact rfl; exact rfl; exact rfl; exact rfl; exact rfl; exact rfl; intro b w H _) | (refine OX.append sg 1 8 (M := M1) (G := [_, _, _, _]) (H.perm (List.perm_append_comm_assoc [_, _] M1 [_, _])) rfl rfl rfl rfl rfl rfl rfl rfl rfl rfl rfl hO (Src.whole H.mem (List.Mem.head _)) rfl (by intro u hu; simp only [List.mem_cons, List.not_mem_nil, or_false] at hu; subst hu; rfl) (by unfold maxLen; omega) (by omega) ?_; intro a2 cap2 M2 w hO2 H2) | refine y13 ?_ | refine y14 ?_ | refine y15 ?_ | refine y16 ?_ | (refine y17 ?_ ?_; all_goals intro h) | (refine y18 ?_ ?_; all_goals intro h) | with_reducible apply OW.app | with_reducible apply OW.app0 | with_reducible apply QW.app | with_reducible apply QW.app0 | with_reducible apply OW.nil | (with_reducible apply QW.nil; intro w hcl; replace H := H.ext hcl; clear hcl) | refine y19 ?_ | with_reducible apply thn_n | with_reducible apply CW.seq | with_reducible apply CW.region | refine y20 mixed ?_ | with_reducible apply CW.block | with_reducible apply CW.ret | with_reducible apply CW.exit | with_reducible apply CW.skip | with_reducible apply thn_r | with_reducible apply thn_e | with_reducible apply blk_n | with_reducible apply blk_r | refine y24 ?_ | refine y25 ?_ | refine y21 ?_ | refine y22 ?_ | fail)
    refine Again.mk (k + 1, a2, cap2, M2) rfl ⟨rfl, vsucc (by omega), trivial⟩ ⟨hlt, ?_, H2.sub (List.Sublist.append (List.Sublist.refl _) (List.Sublist.cons _ (List.Sublist.cons _ (List.Sublist.refl _))))⟩ (by show rowN l clock - (k + 1) < rowN l clock - k; omega)
    show Own M2 _ 1 a2 (k + 1) cap2 ((List.range (k + 1)).map fun t => Value.int .i64 (D t).1.id)
    rw [List.range_succ, List.map_append]
    exact hO2
  · have hkn : k = rowN l clock := by have := of_decide_eq_false h; unfold rowN at *; omega
    subst hkn
    repeat' (first | refine y1 sg ?_ | refine y2 sg ?_ | refine y3 ?_ | refine y4 ?_ | refine y5 sg ?_ | refine y6 sg ?_ | refine y7 sg H ?_ | refine y8 sg H ?_ | (refine y9 H ?_; intro b w H) | (refine y10 sg H ?_; intro b w H) | (refine y11 sg H ?_; intro w H) | refine y12 ?_ | refine y13 ?_ | refine y14 ?_ | refine y15 ?_ | refine y16 ?_ | (refine y17 ?_ ?_; all_goals intro h) | (refine y18 ?_ ?_; all_goals intro h) | with_reducible apply OW.app | with_reducible apply OW.app0 | with_reducible apply QW.app | with_reducible apply QW.app0 | with_reducible apply OW.nil | (with_reducible apply QW.nil; intro w hcl; replace H := H.ext hcl; clear hcl) | refine y19 ?_ | with_reducible apply thn_n | with_reducible apply CW.seq | with_reducible apply CW.region | refine y20 mixed ?_ | with_reducible apply CW.block | with_reducible apply CW.ret | with_reducible apply CW.exit | with_reducible apply CW.skip | with_reducible apply thn_r | with_reducible apply thn_e | with_reducible apply blk_n | with_reducible apply blk_r | refine y24 ?_ | refine y25 ?_ | refine y21 ?_ | refine y22 ?_ | fail)
    refine retVF (vs := [_]) (M := M1) ⟨rdvT rfl, trivial⟩ (H.sub (List.sublist_append_left _ _)) ⟨_, a1, cap1, hrow, by rw [List.length_map, List.length_range]; rfl, ?_⟩
    unfold OwnI
    rw [List.length_map, List.length_map, List.length_range, List.map_map, List.map_map]
    exact hO
end Go.Proofs.Ytkcoemikglbomaa
