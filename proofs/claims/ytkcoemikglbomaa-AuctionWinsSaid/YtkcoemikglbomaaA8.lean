/- The auction's layer, walked: who wins. -/
import Derived.Test.YtkcoemikglbomaaA7
set_option linter.unusedSimpArgs false
set_option linter.unusedVariables false
namespace Go.Proofs.Ytkcoemikglbomaa
open Go Go.Sk Go.RowKit
def mx (a b : Int) : Int := if b > a then b else a
def prTo (l : List Bid) (res : Int) (i : Int) : Nat → Int
  | 0 => res
  | k + 1 => if ((k : Int) != i) = true then mx (prTo l res i k) (l.getD k default).amount else prTo l res i k
def swinF (x : Auc) : Bid × Bool :=
  if hi x.bids < 0 || decide ((x.bids.getD (hi x.bids).toNat default).amount < x.reserve) then (Bid.zero, false)
  else (⟨(x.bids.getD (hi x.bids).toNat default).acct, prTo x.bids x.reserve (hi x.bids) x.bids.length⟩, true)
def ewinF (x : Auc) : Bid × Bool := if (x.bids.length : Int) == 0 then (Bid.zero, false) else (x.bids.getD 0 default, true)
set_option maxHeartbeats 1000000 in
theorem c_ewins {a : Option Addr} {cap : Nat} (x : Auc) {F : Frag} (w0 : World) (hF : Mem w0 F) (hs : Bids F a cap x.bids) :
    Calls Try.prog 93 [.agg #[], .agg (x.cells a cap).toArray].toArray w0 (Ret (.tuple #[.agg (ewinF x).1.cells.toArray, .bool (ewinF x).2]) w0) := by
  obtain ⟨hn, hc, b0, off, cs, T, fr, hs⟩ := hs
  refine enter [.cell 4 26, .tmp 5] Try.func93 rfl Try.ntmps93 rfl rfl ?_
  have H := St.start w0
  repeat' (first | refine y1 sg ?_ | refine y2 sg ?_ | refine y3 ?_ | refine y4 ?_ | refine y5 sg ?_ | refine y6 sg ?_ | refine y7 sg H ?_ | refine y8 sg H ?_ | (refine y9 H ?_; intro b w H) | (refine y10 sg H ?_; intro b w H) | (refine y11 sg H ?_; intro w H) | refine y12 ?_ | (refine y40 sg (hs) ?_ ?_ ?_; omega; (have := neI h; omega)) | (refine y41 sg (hs) ?_ ?_ ?_; omega; (have := neI h; omega)) | (refine y42 sg (hs) ((H.memF hF)) ?_ ?_; (have := neI h; omega)) | (refine y43 sg (hs) ((H.memF hF)) ?_ ?_; (have := neI h; omega)) | refine y13 ?_ | refine y14 ?_ | refine y15 ?_ | refine y16 ?_ | (refine y17 ?_ ?_; all_goals intro h) | (refine y18 ?_ ?_; all_goals intro h) | with_reducible apply OW.app | with_reducible apply OW.app0 | with_reducible apply QW.app | with_reducible apply QW.app0 | with_reducible apply OW.nil | (with_reducible apply QW.nil; intro w hcl; replace H := H.ext hcl; clear hcl) | refine y19 ?_ | with_reducible apply thn_n | with_reducible apply CW.seq | with_reducible apply CW.region | refine y20 mixed ?_ | with_reducible apply CW.block | with_reducible apply CW.ret | with_reducible apply CW.exit | with_reducible apply CW.skip | with_reducible apply thn_r | with_reducible apply thn_e | with_reducible apply blk_n | with_reducible apply blk_r | refine y24 ?_ | refine y25 ?_ | refine y21 ?_ | refine y22 ?_ | (refine y23 ?_ ?_; all_goals intro h) | fail)
  all_goals first
    | (refine retV (vs := [_, _]) ⟨rdvC sg rfl H.mem (List.Mem.head _) rfl rfl, rdvT rfl, trivial⟩ H.cl ?_
       simp only [ewinF, *]
       rfl)
set_option maxHeartbeats 2000000 in
theorem c_swins {a : Option Addr} {cap : Nat} (x : Auc) {F : Frag} (w0 : World) (hF : Mem w0 F) (hs0 : Bids F a cap x.bids) :
    Calls Try.prog 88 [.agg #[], .agg (x.cells a cap).toArray].toArray w0 (Ret (.tuple #[.agg (swinF x).1.cells.toArray, .bool (swinF x).2]) w0) := by
  have hs1 := hs0
  obtain ⟨hn, hc, b0, off, cs, T, fr, hs⟩ := hs1
  have hh : -1 ≤ hi x.bids ∧ hi x.bids < x.bids.length := hiTo_lt _ _
  refine enter [.cell 4 26, .tmp 5] Try.func88 rfl Try.ntmps88 rfl rfl ?_
  have H := St.start w0
  repeat' (first | refine y1 sg ?_ | refine y2 sg ?_ | refine y3 ?_ | refine y4 ?_ | refine y5 sg ?_ | refine y6 sg ?_ | refine y7 sg H ?_ | refine y8 sg H ?_ | (refine y9 H ?_; intro b w H) | (refine y10 sg H ?_; intro b w H) | (refine y11 sg H ?_; intro w H) | refine y12 ?_ | (refine y40 sg (hs) ?_ ?_ ?_; (have := of_decide_eq_false ‹decide (hi x.bids < 0) = false›; omega); omega) | (refine y41 sg (hs) ?_ ?_ ?_; (have := of_decide_eq_false ‹decide (hi x.bids < 0) = false›; omega); omega) | (refine y44 sg (hs) ((H.memF hF)) ?_ ?_; (have := of_decide_eq_false ‹decide (hi x.bids < 0) = false›; omega)) | (refine y45 sg (hs) ((H.memF hF)) ?_ ?_; (have := of_decide_eq_false ‹decide (hi x.bids < 0) = false›; omega)) | (refine' y30 ent48 ?_ ?_; rotate_left; exact c_highest x.bids _ (H.memF hF) hs0; intro w hcl; replace H := H.ext hcl; clear hcl) | (refine' y31 ent48 ?_ ?_; rotate_left; exact (fun _ hcl => c_highest x.bids _ ((H.ext hcl).memF hF) hs0)) | refine y13 ?_ | refine y14 ?_ | refine y15 ?_ | refine y16 ?_ | (refine y17 ?_ ?_; all_goals intro h) | (refine y18 ?_ ?_; all_goals intro h) | with_reducible apply OW.app | with_reducible apply OW.app0 | with_reducible apply QW.app | with_reducible apply QW.app0 | with_reducible apply OW.nil | (with_reducible apply QW.nil; intro w hcl; replace H := H.ext hcl; clear hcl) | refine y19 ?_ | with_reducible apply thn_n | with_reducible apply CW.seq | with_reducible apply CW.region | refine y20 mixed ?_ | with_reducible apply CW.block | with_reducible apply CW.ret | with_reducible apply CW.exit | with_reducible apply CW.skip | with_reducible apply thn_r | with_reducible apply thn_e | with_reducible apply blk_n | with_reducible apply blk_r | refine y24 ?_ | refine y25 ?_ | refine y21 ?_ | refine y22 ?_ | fail)
  · refine retV (vs := [_, _]) ⟨rdvC sg rfl H.mem (List.Mem.head _) rfl rfl, rdvT rfl, trivial⟩ H.cl ?_
    simp only [swinF, *]
    rfl
  · refine CW.cond rfl (fun h2 => ?_) (fun h2 => ?_)
    · repeat' (first | refine y1 sg ?_ | refine y2 sg ?_ | refine y3 ?_ | refine y4 ?_ | refine y5 sg ?_ | refine y6 sg ?_ | refine y7 sg H ?_ | refine y8 sg H ?_ | (refine y9 H ?_; intro b w H) | (refine y10 sg H ?_; intro b w H) | (refine y11 sg H ?_; intro w H) | refine y12 ?_ | refine y13 ?_ | refine y14 ?_ | refine y15 ?_ | refine y16 ?_ | (refine y17 ?_ ?_; all_goals intro h) | (refine y18 ?_ ?_; all_goals intro h) | with_reducible apply OW.app | with_reducible apply OW.app0 | with_reducible apply QW.app | with_reducible apply QW.app0 | with_reducible apply OW.nil | (with_reducible apply QW.nil; intro w hcl; replace H := H.ext hcl; clear hcl) | refine y19 ?_ | with_reducible apply thn_n | with_reducible apply CW.seq | with_reducible apply CW.region | refine y20 mixed ?_ | with_reducible apply CW.block | with_reducible apply CW.ret | with_reducible apply CW.exit | with_reducible apply CW.skip | with_reducible apply thn_r | with_reducible apply thn_e | with_reducible apply blk_n | with_reducible apply blk_r | refine y24 ?_ | refine y25 ?_ | refine y21 ?_ | refine y22 ?_ | fail)
      refine retV (vs := [_, _]) ⟨rdvC sg rfl H.mem (List.Mem.head _) rfl rfl, rdvT rfl, trivial⟩ H.cl ?_
      simp only [swinF, *]
      rfl
    · have hge := of_decide_eq_false h
      repeat' (first | refine y1 sg ?_ | refine y2 sg ?_ | refine y3 ?_ | refine y4 ?_ | refine y5 sg ?_ | refine y6 sg ?_ | refine y7 sg H ?_ | refine y8 sg H ?_ | (refine y9 H ?_; intro b w H) | (refine y10 sg H ?_; intro b w H) | (refine y11 sg H ?_; intro w H) | refine y12 ?_ | refine y13 ?_ | refine y14 ?_ | refine y15 ?_ | refine y16 ?_ | (refine y17 ?_ ?_; all_goals intro h) | (refine y18 ?_ ?_; all_goals intro h) | with_reducible apply OW.app | with_reducible apply OW.app0 | with_reducible apply QW.app | with_reducible apply QW.app0 | with_reducible apply OW.nil | (with_reducible apply QW.nil; intro w hcl; replace H := H.ext hcl; clear hcl) | refine y19 ?_ | with_reducible apply thn_n | with_reducible apply CW.seq | with_reducible apply CW.region | refine y20 mixed ?_ | with_reducible apply CW.block | with_reducible apply CW.ret | with_reducible apply CW.exit | with_reducible apply CW.skip | with_reducible apply thn_r | with_reducible apply thn_e | with_reducible apply blk_n | with_reducible apply blk_r | refine y24 ?_ | refine y25 ?_ | refine y21 ?_ | refine y22 ?_ | fail)
      refine CW.loopI [(7, 9), (32, 44)] (fun k : Nat => [(32, .int .i64 (k : Int)), (7, .int .i64 (prTo x.bids x.reserve (hi x.bids) k))])
        (fun k w => k ≤ x.bids.length ∧ St w0 [cb _ Bid.zero.cells 26, cb _ (x.cells a cap) 24, cb _ [] 73] w) (fun k => x.bids.length - k) 0 ⟨rfl, rfl, trivial⟩ ⟨Nat.zero_le _, H⟩ ?_
      clear H
      rintro k g w ⟨hk, H⟩
      repeat' (first | refine y1 sg ?_ | refine y2 sg ?_ | refine y3 ?_ | refine y4 ?_ | refine y5 sg ?_ | refine y6 sg ?_ | refine y7 sg H ?_ | refine y8 sg H ?_ | (refine y9 H ?_; intro b w H) | (refine y10 sg H ?_; intro b w H) | (refine y11 sg H ?_; intro w H) | refine y12 ?_ | refine y13 ?_ | refine y14 ?_ | refine y15 ?_ | refine y16 ?_ | (refine y17 ?_ ?_; all_goals intro h) | (refine y18 ?_ ?_; all_goals intro h) | with_reducible apply OW.app | with_reducible apply OW.app0 | with_reducible apply QW.app | with_reducible apply QW.app0 | with_reducible apply OW.nil | (with_reducible apply QW.nil; intro w hcl; replace H := H.ext hcl; clear hcl) | refine y19 ?_ | with_reducible apply thn_n | with_reducible apply CW.seq | with_reducible apply CW.region | refine y20 mixed ?_ | with_reducible apply CW.block | with_reducible apply CW.ret | with_reducible apply CW.exit | with_reducible apply CW.skip | with_reducible apply thn_r | with_reducible apply thn_e | with_reducible apply blk_n | with_reducible apply blk_r | refine y24 ?_ | refine y25 ?_ | refine y21 ?_ | refine y22 ?_ | fail)
      refine CW.cond rfl (fun h3 => ?_) (fun h3 => ?_)
      · have hlt : k < x.bids.length := by simpa using h3
        repeat' (first | refine y1 sg ?_ | refine y2 sg ?_ | refine y3 ?_ | refine y4 ?_ | refine y5 sg ?_ | refine y6 sg ?_ | refine y7 sg H ?_ | refine y8 sg H ?_ | (refine y9 H ?_; intro b w H) | (refine y10 sg H ?_; intro b w H) | (refine y11 sg H ?_; intro w H) | refine y12 ?_ | (refine y40 sg (hs) ?_ ?_ ?_; omega; omega) | (refine y41 sg (hs) ?_ ?_ ?_; omega; omega) | (refine y42 sg (hs) ((H.memF hF)) ?_ ?_; omega) | (refine y43 sg (hs) ((H.memF hF)) ?_ ?_; omega) | refine y13 ?_ | refine y14 ?_ | refine y15 ?_ | refine y16 ?_ | (refine y17 ?_ ?_; all_goals intro h) | (refine y18 ?_ ?_; all_goals intro h) | with_reducible apply OW.app | with_reducible apply OW.app0 | with_reducible apply QW.app | with_reducible apply QW.app0 | with_reducible apply OW.nil | (with_reducible apply QW.nil; intro w hcl; replace H := H.ext hcl; clear hcl) | refine y19 ?_ | with_reducible apply thn_n | with_reducible apply CW.seq | with_reducible apply CW.region | refine y20 mixed ?_ | with_reducible apply CW.block | with_reducible apply CW.ret | with_reducible apply CW.exit | with_reducible apply CW.skip | with_reducible apply thn_r | with_reducible apply thn_e | with_reducible apply blk_n | with_reducible apply blk_r | refine y24 ?_ | refine y25 ?_ | refine y21 ?_ | refine y22 ?_ | (refine y23 ?_ ?_; all_goals intro h) | fail)
        all_goals refine Again.mk (k + 1) rfl ⟨vsucc (by omega), ?_, trivial⟩ ⟨hlt, H.sub (by repeat (first | exact List.Sublist.refl _ | exact List.nil_sublist _ | apply List.Sublist.cons_cons | apply List.Sublist.cons))⟩ (by omega)
        · show Value.int .i64 (mx _ _) = _
          rw [prTo, if_pos ‹_›]
        · show Value.int .i64 (prTo x.bids x.reserve (hi x.bids) k) = _
          rw [prTo, if_neg (by simp only [*]; simp)]
      · have hkn : k = x.bids.length := by simp at h3; omega
        subst hkn
        repeat' (first | refine y1 sg ?_ | refine y2 sg ?_ | refine y3 ?_ | refine y4 ?_ | refine y5 sg ?_ | refine y6 sg ?_ | refine y7 sg H ?_ | refine y8 sg H ?_ | (refine y9 H ?_; intro b w H) | (refine y10 sg H ?_; intro b w H) | (refine y11 sg H ?_; intro w H) | refine y12 ?_ | (refine y40 sg (hs) ?_ ?_ ?_; omega; omega) | (refine y41 sg (hs) ?_ ?_ ?_; omega; omega) | (refine y44 sg (hs) ((H.memF hF)) ?_ ?_; omega) | (refine y45 sg (hs) ((H.memF hF)) ?_ ?_; omega) | refine y13 ?_ | refine y14 ?_ | refine y15 ?_ | refine y16 ?_ | (refine y17 ?_ ?_; all_goals intro h) | (refine y18 ?_ ?_; all_goals intro h) | with_reducible apply OW.app | with_reducible apply OW.app0 | with_reducible apply QW.app | with_reducible apply QW.app0 | with_reducible apply OW.nil | (with_reducible apply QW.nil; intro w hcl; replace H := H.ext hcl; clear hcl) | refine y19 ?_ | with_reducible apply thn_n | with_reducible apply CW.seq | with_reducible apply CW.region | refine y20 mixed ?_ | with_reducible apply CW.block | with_reducible apply CW.ret | with_reducible apply CW.exit | with_reducible apply CW.skip | with_reducible apply thn_r | with_reducible apply thn_e | with_reducible apply blk_n | with_reducible apply blk_r | refine y24 ?_ | refine y25 ?_ | refine y21 ?_ | refine y22 ?_ | (refine y23 ?_ ?_; all_goals intro h) | fail)
        refine retV (vs := [_, _]) ⟨rdvC sg rfl H.mem (List.Mem.head _) rfl rfl, rdvT rfl, trivial⟩ H.cl ?_
        simp only [swinF, *]
        rfl
end Go.Proofs.Ytkcoemikglbomaa
