/- The auction's layer, walked: own, Get, Top. -/
import Derived.Test.YtkcoemikglbomaaA6
set_option linter.unusedSimpArgs false
set_option linter.unusedVariables false
namespace Go.Proofs.Ytkcoemikglbomaa
open Go Go.Sk Go.RowKit
/-- Bids in memory of one's own. -/
def OwnB (M : Frag) (a : Option Addr) (cap : Nat) (l : List Bid) : Prop := Own M 26 2 a l.length cap ((List.range l.length).flatMap (bel l))
theorem bel_len (l : List Bid) (j : Nat) : (bel l j).length = 2 := rfl
theorem bel_one (l : List Bid) (j : Nat) : ∀ u ∈ bel l j, u.oneCell' = true := by
  intro u hu
  simp only [bel, Bid.cells, List.mem_cons, List.not_mem_nil, or_false] at hu
  rcases hu with rfl | rfl <;> rfl
theorem OwnB.bids {M F : Frag} {a : Option Addr} {cap : Nat} {l : List Bid} (h : OwnB M a cap l) (hM : M ⊆ F) (hn : l.length ≤ 140737488355328) : Bids F a cap l := Own.sl h hM (fun j _ => bel_len l j) hn
def OwnA (x : Auc) (M : Frag) (v : Value) : Prop := ∃ a cap, v = .agg (x.cells a cap).toArray ∧ OwnB M a cap x.bids
theorem c_own {a : Option Addr} {cap : Nat} (x : Auc) {F : Frag} (w0 : World) (hF : Mem w0 F) (hs : Bids F a cap x.bids) (hb : x.bids.length ≤ 8796093022208) :
    Calls Try.prog 57 [.agg (x.cells a cap).toArray].toArray w0 (RetF (OwnA x) w0) := by
  refine enter [.cell 2 24] Try.func57 rfl Try.ntmps57 rfl rfl ?_
  have H := St.start w0
  repeat' (first | refine y1 sg ?_ | refine y2 sg ?_ | refine y3 ?_ | refine y4 ?_ | refine y5 sg ?_ | refine y6 sg ?_ | refine y7 sg H ?_ | refine y8 sg H ?_ | (refine y9 H ?_; intro b w H) | (refine y10 sg H ?_; intro b w H) | (refine y11 sg H ?_; intro w H) | refine y12 ?_ | (refine' y32 ent63 ?_ ?_; rotate_left; exact c_CloneBid _ (H.memF hF) hs (fun j _ => bel_one _ j) (fun j _ => bel_len _ j) (by omega); intro v M w hR hS; replace H := H.addR hS; clear hS; (try simp only [List.cons_append, List.nil_append] at H); obtain ⟨a', cap', rfl, hO⟩ := hR) | refine y13 ?_ | refine y14 ?_ | refine y15 ?_ | refine y16 ?_ | (refine y17 ?_ ?_; all_goals intro h) | (refine y18 ?_ ?_; all_goals intro h) | with_reducible apply OW.app | with_reducible apply OW.app0 | with_reducible apply QW.app | with_reducible apply QW.app0 | with_reducible apply OW.nil | (with_reducible apply QW.nil; intro w hcl; replace H := H.ext hcl; clear hcl) | refine y19 ?_ | with_reducible apply thn_n | with_reducible apply CW.seq | with_reducible apply CW.region | refine y20 mixed ?_ | with_reducible apply CW.block | with_reducible apply CW.ret | with_reducible apply CW.exit | with_reducible apply CW.skip | with_reducible apply thn_r | with_reducible apply thn_e | with_reducible apply blk_n | with_reducible apply blk_r | refine y24 ?_ | refine y25 ?_ | refine y21 ?_ | refine y22 ?_ | (refine y23 ?_ ?_; all_goals intro h) | fail)
  refine retVFn (vs := [_]) (M := M) ⟨rdvC sg rfl H.mem (List.Mem.head _) rfl rfl, trivial⟩ (H.sub (by repeat (first | exact List.Sublist.refl _ | exact List.nil_sublist _ | apply List.Sublist.cons_cons | apply List.Sublist.cons))) ⟨a', cap', rfl, hO⟩

/-! ### Get -/
def Auc.zero : Auc := ⟨0, 0, 0, false, 0, 0, 0, 0, []⟩
theorem c_Get1 {a : Option Addr} {cap : Nat} (x : Auc) (id : Int) (b : Nat) (T : TypeId) {F : Frag} (w0 : World) (hF : Mem w0 F) (hm : (b, Obj.cells [Value.int .i64 id].toArray T (0, 0)) ∈ F) :
    Calls Try.prog 56 [.agg (x.cells a cap).toArray, .pointer (some ⟨b, 0, none⟩)].toArray w0 (Ret (.bool (x.id == id)) w0) := by
  refine enter [.tmp 3] Try.func56 rfl Try.ntmps56 rfl rfl ?_
  have H := St.start w0
  repeat' (first | refine y1 sg ?_ | refine y2 sg ?_ | refine y3 ?_ | refine y4 ?_ | refine y5 sg ?_ | refine y6 sg ?_ | refine y7 sg H ?_ | refine y8 sg H ?_ | (refine y9 H ?_; intro b w H) | (refine y10 sg H ?_; intro b w H) | (refine y11 sg H ?_; intro w H) | refine y12 ?_ | ((with_reducible apply OX.val); exact rfl; exact rfl; exact Yq.loadS sg rfl rfl (H.memF hF) hm rfl rfl) | ((with_reducible apply QX.val); exact rfl; exact rfl; exact Yq.loadS sg rfl rfl (H.memF hF) hm rfl rfl) | refine y13 ?_ | refine y14 ?_ | refine y15 ?_ | refine y16 ?_ | (refine y17 ?_ ?_; all_goals intro h) | (refine y18 ?_ ?_; all_goals intro h) | with_reducible apply OW.app | with_reducible apply OW.app0 | with_reducible apply QW.app | with_reducible apply QW.app0 | with_reducible apply OW.nil | (with_reducible apply QW.nil; intro w hcl; replace H := H.ext hcl; clear hcl) | refine y19 ?_ | with_reducible apply thn_n | with_reducible apply CW.seq | with_reducible apply CW.region | refine y20 mixed ?_ | with_reducible apply CW.block | with_reducible apply CW.ret | with_reducible apply CW.exit | with_reducible apply CW.skip | with_reducible apply thn_r | with_reducible apply thn_e | with_reducible apply blk_n | with_reducible apply blk_r | refine y24 ?_ | refine y25 ?_ | refine y21 ?_ | refine y22 ?_ | (refine y23 ?_ ?_; all_goals intro h) | fail)
  exact ret1 rfl H.cl rfl
def getI (l : List Auc) (id : Int) : Int := idx (fun j => (l.getD j default).id == id) l.length
def getF (l : List Auc) (id : Int) : Auc × Bool := if getI l id < 0 then (Auc.zero, false) else (l.getD (getI l id).toNat default, true)
theorem getI_lt (l : List Auc) (id : Int) : -1 ≤ getI l id ∧ getI l id < l.length := by
  rcases idx_cases (fun j => (l.getD j default).id == id) l.length with ⟨k, h1, _, _, h2⟩ | ⟨_, h2⟩ <;> (unfold getI; rw [h2]; omega)
set_option maxHeartbeats 1000000 in
theorem c_Get {a : Option Addr} {cap : Nat} (l : List Auc) (ad : Nat → Option Addr × Nat) (id : Int) {F : Frag} (w0 : World) (hF : Mem w0 F) (hs0 : Aucs F a cap l ad) (hb : ∀ j, j < l.length → (l.getD j default).bids.length ≤ 8796093022208) :
    Calls Try.prog 33 [.slice a l.length cap, .int .i64 id].toArray w0 (RetF (fun M v => ∃ u, OwnA (getF l id).1 M u ∧ v = .tuple #[u, .bool (getF l id).2]) w0) := by
  have hs1 := hs0
  obtain ⟨⟨hn, hc, b0, off, cs, T, fr, hs⟩, hbs⟩ := hs1
  have hg := getI_lt l id
  unfold getI at hg
  refine enter [.cell 4 24, .tmp 5] Try.func33 rfl Try.ntmps33 rfl rfl ?_
  have H := St.start w0
  repeat' (first | refine y1 sg ?_ | refine y2 sg ?_ | refine y3 ?_ | refine y4 ?_ | refine y5 sg ?_ | refine y6 sg ?_ | refine y7 sg H ?_ | refine y8 sg H ?_ | (refine y9 H ?_; intro b w H) | (refine y10 sg H ?_; intro b w H) | (refine y11 sg H ?_; intro w H) | refine y12 ?_ | (refine' y30 ent55 ?_ ?_; rotate_left; exact c_IndexAuc (caps := [.pointer (some ⟨_, 0, none⟩)]) (fun j => (l.getD j default).id == id) _ (H.memF hF) hs0.1 ent56 (fun j hj w hw => c_Get1 (l.getD j default) id _ _ _ (H.ext hw).mem (List.Mem.tail _ (List.Mem.head _))); intro w hcl; replace H := H.ext hcl; clear hcl) | (refine' y31 ent55 ?_ ?_; rotate_left; exact (fun _ hcl => c_IndexAuc (caps := [.pointer (some ⟨_, 0, none⟩)]) (fun j => (l.getD j default).id == id) _ ((H.ext hcl).memF hF) hs0.1 ent56 (fun j hj w hw => c_Get1 (l.getD j default) id _ _ _ ((H.ext hcl).ext hw).mem (List.Mem.tail _ (List.Mem.head _))))) | refine y13 ?_ | refine y14 ?_ | refine y15 ?_ | refine y16 ?_ | (refine y17 ?_ ?_; all_goals intro h) | (refine y18 ?_ ?_; all_goals intro h) | with_reducible apply OW.app | with_reducible apply OW.app0 | with_reducible apply QW.app | with_reducible apply QW.app0 | with_reducible apply OW.nil | (with_reducible apply QW.nil; intro w hcl; replace H := H.ext hcl; clear hcl) | refine y19 ?_ | with_reducible apply thn_n | with_reducible apply CW.seq | with_reducible apply CW.region | refine y20 mixed ?_ | with_reducible apply CW.block | with_reducible apply CW.ret | with_reducible apply CW.exit | with_reducible apply CW.skip | with_reducible apply thn_r | with_reducible apply thn_e | with_reducible apply blk_n | with_reducible apply blk_r | refine y24 ?_ | refine y25 ?_ | refine y21 ?_ | refine y22 ?_ | fail)
  refine CW.cond rfl (fun h => ?_) (fun h => ?_)
  · repeat' (first | refine y1 sg ?_ | refine y2 sg ?_ | refine y3 ?_ | refine y4 ?_ | refine y5 sg ?_ | refine y6 sg ?_ | refine y7 sg H ?_ | refine y8 sg H ?_ | (refine y9 H ?_; intro b w H) | (refine y10 sg H ?_; intro b w H) | (refine y11 sg H ?_; intro w H) | refine y12 ?_ | refine y13 ?_ | refine y14 ?_ | refine y15 ?_ | refine y16 ?_ | (refine y17 ?_ ?_; all_goals intro h) | (refine y18 ?_ ?_; all_goals intro h) | with_reducible apply OW.app | with_reducible apply OW.app0 | with_reducible apply QW.app | with_reducible apply QW.app0 | with_reducible apply OW.nil | (with_reducible apply QW.nil; intro w hcl; replace H := H.ext hcl; clear hcl) | refine y19 ?_ | with_reducible apply thn_n | with_reducible apply CW.seq | with_reducible apply CW.region | refine y20 mixed ?_ | with_reducible apply CW.block | with_reducible apply CW.ret | with_reducible apply CW.exit | with_reducible apply CW.skip | with_reducible apply thn_r | with_reducible apply thn_e | with_reducible apply blk_n | with_reducible apply blk_r | refine y24 ?_ | refine y25 ?_ | refine y21 ?_ | refine y22 ?_ | fail)
    have e : getF l id = (Auc.zero, false) := by unfold getF getI; rw [if_pos (of_decide_eq_true h)]
    refine retVF (vs := [_, _]) (M := []) ⟨rdvC sg rfl H.mem (List.Mem.head _) rfl rfl, rdvT rfl, trivial⟩ (H.sub (List.nil_sublist _)) ?_
    rw [e]
    exact ⟨_, ⟨none, 0, rfl, Own.nil _ _ _⟩, rfl⟩
  · have hlt := of_decide_eq_false h
    have e : getF l id = (l.getD (idx (fun j => (l.getD j default).id == id) l.length).toNat default, true) := by unfold getF getI; rw [if_neg hlt]
    repeat' (first | refine y1 sg ?_ | refine y2 sg ?_ | refine y3 ?_ | refine y4 ?_ | refine y5 sg ?_ | refine y6 sg ?_ | refine y7 sg H ?_ | refine y8 sg H ?_ | (refine y9 H ?_; intro b w H) | (refine y10 sg H ?_; intro b w H) | (refine y11 sg H ?_; intro w H) | refine y12 ?_ | (refine y40 sg (hs) ?_ ?_ ?_; omega; omega) | (refine y41 sg (hs) ?_ ?_ ?_; omega; omega) | (refine y42 sg (hs) ((H.memF hF)) ?_ ?_; omega) | (refine y43 sg (hs) ((H.memF hF)) ?_ ?_; omega) | (refine' y32 ent57 ?_ ?_; rotate_left; exact c_own (l.getD (idx (fun j => (l.getD j default).id == id) l.length).toNat default) _ (H.memF hF) (hbs _ (by omega)) (hb _ (by omega)); intro v M w hR hS; replace H := H.addR hS; clear hS; (try simp only [List.cons_append, List.nil_append] at H); obtain ⟨a', cap', rfl, hO⟩ := hR) | refine y13 ?_ | refine y14 ?_ | refine y15 ?_ | refine y16 ?_ | (refine y17 ?_ ?_; all_goals intro h) | (refine y18 ?_ ?_; all_goals intro h) | with_reducible apply OW.app | with_reducible apply OW.app0 | with_reducible apply QW.app | with_reducible apply QW.app0 | with_reducible apply OW.nil | (with_reducible apply QW.nil; intro w hcl; replace H := H.ext hcl; clear hcl) | refine y19 ?_ | with_reducible apply thn_n | with_reducible apply CW.seq | with_reducible apply CW.region | refine y20 mixed ?_ | with_reducible apply CW.block | with_reducible apply CW.ret | with_reducible apply CW.exit | with_reducible apply CW.skip | with_reducible apply thn_r | with_reducible apply thn_e | with_reducible apply blk_n | with_reducible apply blk_r | refine y24 ?_ | refine y25 ?_ | refine y21 ?_ | refine y22 ?_ | fail)
    refine retVF (vs := [_, _]) (M := M) ⟨rdvC sg rfl H.mem (List.Mem.head _) rfl rfl, rdvT rfl, trivial⟩ (H.sub (by repeat (first | exact List.Sublist.refl _ | exact List.nil_sublist _ | apply List.Sublist.cons_cons | apply List.Sublist.cons))) ?_
    rw [e]; exact ⟨_, ⟨a', cap', rfl, hO⟩, rfl⟩

/-! ### Top -/
def Bid.zero : Bid := ⟨0, 0⟩
def topF (x : Auc) : Bid × Bool := if hi x.bids < 0 || !mayF x then (Bid.zero, false) else (x.bids.getD (hi x.bids).toNat default, true)
set_option maxHeartbeats 1000000 in
theorem c_Top {a : Option Addr} {cap : Nat} (x : Auc) {F : Frag} (w0 : World) (hF : Mem w0 F) (hs0 : Bids F a cap x.bids) :
    Calls Try.prog 21 [.agg (x.cells a cap).toArray].toArray w0 (Ret (.tuple #[.agg (topF x).1.cells.toArray, .bool (topF x).2]) w0) := by
  have hs1 := hs0
  obtain ⟨hn, hc, b0, off, cs, T, fr, hs⟩ := hs1
  have hh : -1 ≤ hi x.bids ∧ hi x.bids < x.bids.length := hiTo_lt _ _
  refine enter [.cell 2 26, .tmp 3] Try.func21 rfl Try.ntmps21 rfl rfl ?_
  have H := St.start w0
  repeat' (first | refine y1 sg ?_ | refine y2 sg ?_ | refine y3 ?_ | refine y4 ?_ | refine y5 sg ?_ | refine y6 sg ?_ | refine y7 sg H ?_ | refine y8 sg H ?_ | (refine y9 H ?_; intro b w H) | (refine y10 sg H ?_; intro b w H) | (refine y11 sg H ?_; intro w H) | refine y12 ?_ | (refine y40 sg (hs) ?_ ?_ ?_; (have := of_decide_eq_false ‹decide (hi x.bids < 0) = false›; omega); omega) | (refine y41 sg (hs) ?_ ?_ ?_; (have := of_decide_eq_false ‹decide (hi x.bids < 0) = false›; omega); omega) | (refine y42 sg (hs) ((H.memF hF)) ?_ ?_; (have := of_decide_eq_false ‹decide (hi x.bids < 0) = false›; omega)) | (refine y43 sg (hs) ((H.memF hF)) ?_ ?_; (have := of_decide_eq_false ‹decide (hi x.bids < 0) = false›; omega)) | (refine' y30 ent48 ?_ ?_; rotate_left; exact c_highest x.bids _ (H.memF hF) hs0; intro w hcl; replace H := H.ext hcl; clear hcl) | (refine' y31 ent48 ?_ ?_; rotate_left; exact (fun _ hcl => c_highest x.bids _ ((H.ext hcl).memF hF) hs0)) | (refine' y30 ent17 ?_ ?_; rotate_left; exact c_May x _ (H.memF hF) hs0; intro w hcl; replace H := H.ext hcl; clear hcl) | (refine' y31 ent17 ?_ ?_; rotate_left; exact (fun _ hcl => c_May x _ ((H.ext hcl).memF hF) hs0)) | refine y13 ?_ | refine y14 ?_ | refine y15 ?_ | refine y16 ?_ | (refine y17 ?_ ?_; all_goals intro h) | (refine y18 ?_ ?_; all_goals intro h) | with_reducible apply OW.app | with_reducible apply OW.app0 | with_reducible apply QW.app | with_reducible apply QW.app0 | with_reducible apply OW.nil | (with_reducible apply QW.nil; intro w hcl; replace H := H.ext hcl; clear hcl) | refine y19 ?_ | with_reducible apply thn_n | with_reducible apply CW.seq | with_reducible apply CW.region | refine y20 mixed ?_ | with_reducible apply CW.block | with_reducible apply CW.ret | with_reducible apply CW.exit | with_reducible apply CW.skip | with_reducible apply thn_r | with_reducible apply thn_e | with_reducible apply blk_n | with_reducible apply blk_r | refine y24 ?_ | refine y25 ?_ | refine y21 ?_ | refine y22 ?_ | (refine y23 ?_ ?_; all_goals intro h) | fail)
  all_goals first
    | (refine retV (vs := [_, _]) ⟨rdvC sg rfl H.mem (List.Mem.head _) rfl rfl, rdvT rfl, trivial⟩ H.cl ?_
       simp only [topF, *]
       rfl)
end Go.Proofs.Ytkcoemikglbomaa
