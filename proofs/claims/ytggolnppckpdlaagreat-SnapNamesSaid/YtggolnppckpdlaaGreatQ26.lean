/- Texts of ours, joined: the steps of the proof, or the claim's theorem. -/
import Derived.Test.YtggolnppckpdlaaGreatQ04
import Derived.Test.YtggolnppckpdlaaGreatQ17
import Derived.Test.YtggolnppckpdlaaGreatQ19
import Derived.Test.YtggolnppckpdlaaGreatQ25
set_option linter.unusedSimpArgs false
set_option linter.unusedVariables false
namespace Go.Proofs.YtggolnppckpdlaaGreat
open Go Go.Sk Go.RowKit
attribute [local irreducible] Go.Calls
abbrev P3 := Int × Int × Int
def ordPart (o : Odr) : List P3 := if (holdF o).2 > 0 then [(o.acct, (holdF o).1, (holdF o).2)] else []
def aucPart (a : Auc) : List P3 := if mayF a then (a.seller, a.inst, a.qty) :: a.bids.map (fun b => (b.acct, 0, b.amount)) else []
def partsL (s : Sta) : List P3 := s.orders.flatMap ordPart ++ s.aucs.flatMap aucPart
def p3 (l : List P3) (k : Nat) : P3 := l.getD k (0, 0, 0)
def u1P (s : Sta) (k : Nat) : Value := .agg #[.int .i64 (p3 (partsL s) k).1, .int .i64 (p3 (partsL s) k).2.1]
def u2P (s : Sta) (k : Nat) : Value := .int .i64 (p3 (partsL s) k).2.2
theorem at_in (A B Z C : List P3) {j : Nat} (hj : j < Z.length) : p3 (A ++ (B ++ (Z ++ C))) (A.length + B.length + j) = p3 Z j ∧ A.length + B.length + j < (A ++ (B ++ (Z ++ C))).length := by
  refine ⟨?_, by simp; omega⟩
  unfold p3
  rw [List.getD_eq_getElem?_getD, List.getD_eq_getElem?_getD, List.getElem?_append_right (by omega), List.getElem?_append_right (by omega), List.getElem?_append_left (by omega)]
  congr 2; omega
theorem flat_split {α : Type} (f : α → List P3) (l : List α) (d : α) {i : Nat} (hi : i < l.length) : l.flatMap f = (l.take i).flatMap f ++ (f (l.getD i d) ++ (l.drop (i + 1)).flatMap f) := by
  have h : l = l.take i ++ (l.getD i d :: l.drop (i + 1)) := by
    conv => lhs; rw [← List.take_append_drop i l, List.drop_eq_getElem_cons hi]
    simp [List.getElem?_eq_getElem hi]
  conv => lhs; rw [h]
  rw [List.flatMap_append, List.flatMap_cons]
theorem flat_take {α : Type} (f : α → List P3) (l : List α) (d : α) {i : Nat} (hi : i < l.length) : (l.take (i + 1)).flatMap f = (l.take i).flatMap f ++ f (l.getD i d) := by
  rw [List.take_succ_eq_append_getElem hi, List.flatMap_append]
  simp [List.getElem?_eq_getElem hi]
theorem bid_at {l : List Bid} (x : P3) {j : Nat} (hj : j < l.length) : p3 (x :: l.map (fun b => (b.acct, 0, b.amount))) (j + 1) = ((l.getD j default).acct, 0, (l.getD j default).amount) := by
  unfold p3
  rw [List.getD_cons_succ, List.getD_eq_getElem?_getD, List.getElem?_map, List.getElem?_eq_getElem hj, List.getD_eq_getElem?_getD, List.getElem?_eq_getElem hj]
  rfl
set_option maxHeartbeats 4000000 in
theorem it_parts {F : Frag} (s : Sta) (p : SPt) {bs : Nat} {G : Frag} (w0 : World) (hF : Mem w0 F) (hs0 : StaM F s p) (hm : cb bs (s.cells p) 29 ∈ G) :
    Iter Tryz.prog w0 285 [.pointer (some ⟨bs, 0, none⟩)] (partsL s).length (fun k => [u1P s k, u2P s k]) G := by
  intro l K hY M G' w hG hK H
  obtain ⟨hnc, hcb, b0, off, cs, T, fr, hs⟩ := hs0.od
  obtain ⟨⟨hnc2, hcb2, b2, off2, cs2, T2, fr2, hs2⟩, hbd⟩ := hs0.au
  have hmG := hG hm
  clear hG hm
  refine enter [] Tryz.func285 rfl Tryz.ntmps285 rfl rfl ?_
  repeat' (first | refine y1 sg ?_ | refine y3 ?_ | ((with_reducible apply OX.val); exact rfl; exact rfl; exact Yq.loadS sg rfl rfl (H.mem.sub (by intro p hp; simp [hp])) hmG rfl rfl) | with_reducible apply OW.nil | with_reducible apply thn_n | with_reducible apply CW.seq | refine CW.region ?_ | with_reducible apply CW.block | fail)
  refine CW.loopI [(4, 6), (14, 35)] (fun x : Nat × Frag => [(14, .int .i64 (x.1 : Int))]) (fun x w => x.1 ≤ s.orders.length ∧ St w0 (x.2 ++ G') w ∧ K ((s.orders.take x.1).flatMap ordPart).length x.2) (fun x => s.orders.length - x.1) (0, M) ⟨rfl, trivial⟩ ⟨Nat.zero_le _, H, hK⟩ ?_
  clear H hK
  rintro ⟨i, M⟩ gh w ⟨hi, H, hK⟩
  simp only at hi H hK ⊢
  repeat' (first | refine y1 sg ?_ | with_reducible apply OW.nil | with_reducible apply thn_n | with_reducible apply CW.seq | refine CW.region ?_ | fail)
  refine CW.cond rfl (fun h => ?_) (fun h => ?_)
  · have hlt : i < s.orders.length := by have := of_decide_eq_true h; omega
    clear h
    obtain ⟨hq, hn, hh⟩ : ∃ q n, holdF (od_ s.orders i) = (q, n) := ⟨_, _, rfl⟩
    have hHo := fun w => c_Holds (od_ s.orders i) w
    rw [hh] at hHo
    have hsp := flat_split ordPart s.orders default hlt
    have htk := flat_take ordPart s.orders default hlt
    change _ = _ ++ (ordPart (od_ s.orders i) ++ _) at hsp
    change _ = _ ++ ordPart (od_ s.orders i) at htk
    have e1 : ordPart (od_ s.orders i) = if hn > 0 then [((od_ s.orders i).acct, hq, hn)] else [] := by unfold ordPart; rw [hh]
    obtain ⟨cnt, hcnt⟩ : ∃ c, ((s.orders.take i).flatMap ordPart).length = c := ⟨_, rfl⟩
    rw [hcnt] at hK
    have hYo : hn > 0 → ∀ (M G' : Frag) (w : World), K cnt M → St w0 (M ++ G') w → Yld Tryz.prog l [.agg #[.int .i64 (od_ s.orders i).acct, .int .i64 hq], .int .i64 hn] w (fun e w' => ∃ v, e = .returned v ∧ (v = .bool true ∧ ∃ M', K (cnt + 1) M' ∧ St w0 (M' ++ G') w')) := by
      intro hpos M G' w hK H
      rw [if_pos hpos] at e1
      rw [e1] at hsp
      have hp : partsL s = [] ++ ((s.orders.take i).flatMap ordPart ++ ([((od_ s.orders i).acct, hq, hn)] ++ ((s.orders.drop (i + 1)).flatMap ordPart ++ s.aucs.flatMap aucPart))) := by
        unfold partsL; rw [hsp]; simp
      obtain ⟨h1, h2⟩ := at_in [] ((s.orders.take i).flatMap ordPart) [((od_ s.orders i).acct, hq, hn)] ((s.orders.drop (i + 1)).flatMap ordPart ++ s.aucs.flatMap aucPart) (j := 0) (by simp)
      rw [← hp, hcnt] at h1 h2
      simp only [List.length_nil, Nat.zero_add, Nat.add_zero] at h1 h2
      have := hY cnt h2 M G' w hK H
      simp only [u1P, u2P, h1] at this
      exact this
    repeat' (first | refine y1 sg ?_ | refine y3 ?_ | refine y5 sg ?_ | refine y7 sg H ?_ | (refine y10 sg H ?_; intro b w H) | (refine y11 sg H ?_; intro w H) | (refine y40 sg (hs) ?_ ?_ ?_; (omega); (omega)) | (refine y42 sg (hs) ((H.memF hF)) ?_ ?_; (omega)) | (refine' y30 ent286 ?_ ?_; rotate_left; exact hHo _; intro w hcl; replace H := H.ext hcl; clear hcl) | (refine CW.regionY (id := 4) ?_) | (refine OY.yield (hYo (of_decide_eq_true h) M (_ :: G') _ hK (H.perm (perm1 M G'))) ?_ (hw := OY.gY rfl rfl rfl); rintro v w ⟨rfl, M, hK, H⟩; replace H := H.perm (perm1 M G').symm) | (refine OY.preN 9 12 ?_; simp only [List.take_succ_cons, List.take_zero, List.drop_succ_cons, List.drop_zero]) | (refine OY.all ?_) | refine y13 ?_ | refine y14 ?_ | (refine y17 ?_ ?_; all_goals intro h) | with_reducible apply OW.nil | with_reducible apply thn_n | with_reducible apply CW.seq | refine CW.region ?_ | with_reducible apply CW.block | with_reducible apply CW.skip | refine y22 ?_ | fail)
    · have hpos := of_decide_eq_true h
      refine Again.mk (i + 1, M) rfl ⟨vsucc (by omega), trivial⟩ ⟨hlt, H.sub (List.sublist_cons_self _ _), ?_⟩ (by simp only; omega)
      simp only
      rw [htk, e1, if_pos hpos, List.length_append, hcnt]
      exact hK
    · have hneg := of_decide_eq_false h
      refine Again.mk (i + 1, M) rfl ⟨vsucc (by omega), trivial⟩ ⟨hlt, H.sub (List.sublist_cons_self _ _), ?_⟩ (by simp only; omega)
      simp only
      rw [htk, e1, if_neg hneg, List.append_nil, hcnt]
      exact hK
  · obtain rfl : i = s.orders.length := by have := of_decide_eq_false h; omega
    clear h
    rw [List.take_length] at hK
    obtain ⟨A, hA⟩ : ∃ A, (s.orders.flatMap ordPart).length = A := ⟨_, rfl⟩
    rw [hA] at hK
    repeat' (first | refine y1 sg ?_ | refine y3 ?_ | ((with_reducible apply OX.val); exact rfl; exact rfl; exact Yq.loadS sg rfl rfl (H.mem.sub (by intro p hp; simp [hp])) hmG rfl rfl) | with_reducible apply OW.nil | with_reducible apply thn_n | with_reducible apply CW.seq | refine CW.region ?_ | with_reducible apply CW.block | with_reducible apply CW.exit | with_reducible apply thn_e | refine y24 ?_ | fail)
    refine CW.loopI [(8, 8), (10, 10), (39, 72)] (fun x : Nat × Frag => [(39, .int .i64 (x.1 : Int))]) (fun x w => x.1 ≤ s.aucs.length ∧ St w0 (x.2 ++ G') w ∧ K (A + ((s.aucs.take x.1).flatMap aucPart).length) x.2) (fun x => s.aucs.length - x.1) (0, M) ⟨rfl, trivial⟩ ⟨Nat.zero_le _, H, hK⟩ ?_
    clear H hK hi
    rintro ⟨i, M⟩ gh w ⟨hi, H, hK⟩
    simp only at hi H hK ⊢
    repeat' (first | refine y1 sg ?_ | with_reducible apply OW.nil | with_reducible apply thn_n | with_reducible apply CW.seq | refine CW.region ?_ | fail)
    refine CW.cond rfl (fun h => ?_) (fun h => ?_)
    · have hlt : i < s.aucs.length := by have := of_decide_eq_true h; omega
      clear h
      have hbx := hbd i hlt
      have hsp := flat_split aucPart s.aucs default hlt
      have htk := flat_take aucPart s.aucs default hlt
      obtain ⟨cnt, hcnt⟩ : ∃ c, A + ((s.aucs.take i).flatMap aucPart).length = c := ⟨_, rfl⟩
      rw [hcnt] at hK
      have hYa : mayF (s.aucs.getD i default) = true → ∀ j, j < (s.aucs.getD i default).bids.length + 1 → ∀ (M G' : Frag) (w : World), K (cnt + j) M → St w0 (M ++ G') w → Yld Tryz.prog l [.agg #[.int .i64 (p3 (aucPart (s.aucs.getD i default)) j).1, .int .i64 (p3 (aucPart (s.aucs.getD i default)) j).2.1], .int .i64 (p3 (aucPart (s.aucs.getD i default)) j).2.2] w (fun e w' => ∃ v, e = .returned v ∧ (v = .bool true ∧ ∃ M', K (cnt + j + 1) M' ∧ St w0 (M' ++ G') w')) := by
        intro hmay j hj M G' w hK H
        have hp : partsL s = s.orders.flatMap ordPart ++ ((s.aucs.take i).flatMap aucPart ++ (aucPart (s.aucs.getD i default) ++ (s.aucs.drop (i + 1)).flatMap aucPart)) := by
          unfold partsL; rw [← hsp]
        obtain ⟨h1, h2⟩ := at_in (s.orders.flatMap ordPart) ((s.aucs.take i).flatMap aucPart) (aucPart (s.aucs.getD i default)) ((s.aucs.drop (i + 1)).flatMap aucPart) (j := j) (by unfold aucPart; rw [if_pos hmay]; simpa using hj)
        rw [← hp, hA, hcnt] at h1 h2
        have := hY (cnt + j) h2 M G' w hK H
        simp only [u1P, u2P, h1] at this
        exact this
      repeat' (first | refine y1 sg ?_ | refine y3 ?_ | refine y7 sg H ?_ | (refine y10 sg H ?_; intro b w H) | (refine y11 sg H ?_; intro w H) | (refine y40 sg (hs2) ?_ ?_ ?_; (omega); (omega)) | (refine y42 sg (hs2) ((H.memF hF)) ?_ ?_; (omega)) | (refine' y30 ent283 ?_ ?_; rotate_left; exact c_May (s.aucs.getD i default) _ (H.memF hF) hbx; intro w hcl; replace H := H.ext hcl; clear hcl) | with_reducible apply OW.nil | with_reducible apply thn_n | with_reducible apply CW.seq | refine CW.region ?_ | with_reducible apply CW.block | with_reducible apply CW.skip | fail)
      refine CW.cond rfl (fun h => ?_) (fun h => ?_)
      · have hmf : mayF (s.aucs.getD i default) = false := by simpa using h
        clear h
        repeat' (first | refine y1 sg ?_ | with_reducible apply OW.nil | with_reducible apply thn_n | refine CW.region ?_ | with_reducible apply CW.exit | fail)
        refine Again.mk (i + 1, M) rfl ⟨vsucc (by omega), trivial⟩ ⟨hlt, H.sub (List.sublist_cons_self _ _), ?_⟩ (by simp only; omega)
        simp only
        have : aucPart (s.aucs.getD i default) = [] := by unfold aucPart; rw [hmf]; rfl
        rw [htk, this, List.append_nil, hcnt]
        exact hK
      · have hmt : mayF (s.aucs.getD i default) = true := by simpa using h
        clear h
        have hYm := hYa hmt
        have hap : aucPart (s.aucs.getD i default) = ((s.aucs.getD i default).seller, (s.aucs.getD i default).inst, (s.aucs.getD i default).qty) :: (s.aucs.getD i default).bids.map (fun b => (b.acct, 0, b.amount)) := by unfold aucPart; rw [if_pos hmt]
        have hY0 := hYm 0 (Nat.succ_pos _)
        rw [hap] at hY0
        have hYb : ∀ j, j < (s.aucs.getD i default).bids.length → ∀ (M G' : Frag) (w : World), K (cnt + 1 + j) M → St w0 (M ++ G') w → Yld Tryz.prog l [.agg #[.int .i64 ((s.aucs.getD i default).bids.getD j default).acct, .int .i64 0], .int .i64 ((s.aucs.getD i default).bids.getD j default).amount] w (fun e w' => ∃ v, e = .returned v ∧ (v = .bool true ∧ ∃ M', K (cnt + 1 + (j + 1)) M' ∧ St w0 (M' ++ G') w')) := by
          intro j hj M G' w hK H
          have h1 := hYm (j + 1) (by omega) M G' w (by rw [show cnt + (j + 1) = cnt + 1 + j by omega]; exact hK) H
          have h2 : p3 (aucPart (s.aucs.getD i default)) (j + 1) = (((s.aucs.getD i default).bids.getD j default).acct, 0, ((s.aucs.getD i default).bids.getD j default).amount) := by
            rw [hap]
            exact bid_at _ hj
          rw [h2, show cnt + (j + 1) + 1 = cnt + 1 + (j + 1) by omega] at h1
          exact h1
        obtain ⟨hnc3, hcb3, b3, off3, cs3, T3, fr3, hs3⟩ := hbx
        repeat' (first | refine y1 sg ?_ | refine y3 ?_ | refine y7 sg H ?_ | (refine CW.regionY (id := 10) ?_) | (refine OY.yield (hY0 M (_ :: G') _ hK (H.perm (perm1 M G'))) ?_ (hw := OY.go rfl); rintro v w ⟨rfl, M, hK, H⟩; replace H := H.perm (perm1 M G').symm) | (refine OY.preN 8 10 ?_; simp only [List.take_succ_cons, List.take_zero, List.drop_succ_cons, List.drop_zero]) | (refine OY.all ?_) | with_reducible apply OW.nil | with_reducible apply thn_n | with_reducible apply CW.seq | refine CW.region ?_ | with_reducible apply CW.block | with_reducible apply CW.skip | refine y22 ?_ | fail)
        refine CW.loopI [(10, 10), (59, 71)] (fun x : Nat × Frag => [(59, .int .i64 (x.1 : Int))]) (fun x w => x.1 ≤ (s.aucs.getD i default).bids.length ∧ St w0 (_ :: (x.2 ++ G')) w ∧ K (cnt + 1 + x.1) x.2) (fun x => (s.aucs.getD i default).bids.length - x.1) (0, M) ⟨rfl, trivial⟩ ⟨Nat.zero_le _, H, hK⟩ ?_
        clear H hK
        rintro ⟨j, M⟩ gh2 w ⟨hj, H, hK⟩
        simp only at hj H hK ⊢
        repeat' (first | refine y1 sg ?_ | with_reducible apply OW.nil | with_reducible apply thn_n | with_reducible apply CW.seq | refine CW.region ?_ | fail)
        refine CW.cond rfl (fun h => ?_) (fun h => ?_)
        · have hlj : j < (s.aucs.getD i default).bids.length := by have := of_decide_eq_true h; omega
          clear h
          have hYj := hYb j hlj
          repeat' (first | refine y1 sg ?_ | refine y3 ?_ | refine y7 sg H ?_ | (refine y10 sg H ?_; intro b w H) | (refine y11 sg H ?_; intro w H) | (refine y40 sg (hs3) ?_ ?_ ?_; (omega); (omega)) | (refine y42 sg (hs3) ((H.memF hF)) ?_ ?_; (omega)) | (refine CW.regionY (id := 14) ?_) | (refine OY.yield (hYj M (_ :: _ :: G') _ hK (H.perm (perm2 M G'))) ?_ (hw := OY.go rfl); rintro v w ⟨rfl, M, hK, H⟩; replace H := H.perm (perm2 M G').symm) | (refine OY.preN 6 8 ?_; simp only [List.take_succ_cons, List.take_zero, List.drop_succ_cons, List.drop_zero]) | (refine OY.all ?_) | with_reducible apply OW.nil | with_reducible apply thn_n | with_reducible apply CW.seq | refine CW.region ?_ | with_reducible apply CW.block | with_reducible apply CW.skip | refine y22 ?_ | fail)
          exact Again.mk (j + 1, M) rfl ⟨vsucc (by omega), trivial⟩ ⟨hlj, H.sub (List.sublist_cons_self _ _), hK⟩ (by simp only; omega)
        · obtain rfl : j = (s.aucs.getD i default).bids.length := by have := of_decide_eq_false h; omega
          repeat' (first | refine y1 sg ?_ | with_reducible apply OW.nil | with_reducible apply thn_n | refine CW.region ?_ | with_reducible apply CW.exit | fail)
          refine Again.mk2 (i + 1, M) rfl ⟨vsucc (by omega), trivial⟩ ⟨hlt, H.sub (List.sublist_cons_self _ _), ?_⟩ (by simp only; omega)
          simp only
          rw [htk, hap, List.length_append, List.length_cons, List.length_map, ← Nat.add_assoc, hcnt]
          rw [show cnt + ((s.aucs.getD i default).bids.length + 1) = cnt + 1 + (s.aucs.getD i default).bids.length by omega]
          exact hK
    · obtain rfl : i = s.aucs.length := by have := of_decide_eq_false h; omega
      rw [List.take_length] at hK
      repeat' (first | with_reducible apply CW.exit | with_reducible apply thn_e | refine y24 ?_ | fail)
      refine retVFn (vs := []) trivial H ⟨M, rfl, ?_⟩
      unfold partsL
      rw [List.length_append, hA]
      exact hK
end Go.Proofs.YtggolnppckpdlaaGreat
