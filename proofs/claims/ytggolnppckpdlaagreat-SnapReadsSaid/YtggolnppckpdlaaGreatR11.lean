/- Texts of ours, joined: the steps of the proof, or the claim's theorem. -/
import Derived.Test.YtggolnppckpdlaaGreatR10
set_option linter.unusedSimpArgs false
set_option linter.unusedVariables false
namespace Go.Proofs.YtggolnppckpdlaaGreat
open Go Go.Sk Go.RowKit
theorem m_smay : Mth Tryz.prog 326 "souk/auction.may" (.agg #[]) 337 (.agg #[]) := fun w => by kernel_rfl
theorem m_emay : Mth Tryz.prog 327 "souk/auction.may" (.agg #[]) 341 (.agg #[]) := fun w => by kernel_rfl
def zEb (x : Auc) : Bool := x.step == 0 && decide ((x.bids.length : Int) ≤ 16)
def zDw (x : Auc) : Bool := zp x.step 1125899906842624 && (decide ((x.bids.length : Int) ≤ 1) && ((x.bids.length : Int) == 0 || decide ((x.bids.getD 0 default).amount ≥ x.reserve)))
theorem c_smay {a : Option Addr} {cap : Nat} (x : Auc) (w0 : World) :
  Calls Tryz.prog 337 [.agg #[], .agg (x.cells a cap).toArray].toArray w0 (Ret (.bool (zEb x)) w0) := by
 refine enter [.tmp 4] Tryz.func337 rfl Tryz.ntmps337 rfl rfl ?_
 have H := zH w0
 repeat' (first | refine y1 sg ?_ | refine y3 ?_ | refine y5 sg ?_ | refine y7 sg H ?_ | (refine y9 H ?_; intro b w H) | refine y13 ?_ | refine y14 ?_ | (refine y17 ?_ ?_; all_goals intro h) | (with_reducible first | apply zB | apply zD | apply zC | apply zF) | refine zA ?_ | fail)
 all_goals exact zQ rfl H.cl (by simp only [zEb, h]; simp)
theorem c_emay {a : Option Addr} {cap : Nat} (x : Auc) {F : zI} (w0 : World) (hF : Mem w0 F) (hs : Bids F a cap x.bids) :
  Calls Tryz.prog 341 [.agg #[], .agg (x.cells a cap).toArray].toArray w0 (Ret (.bool (zDw x)) w0) := by
 obtain ⟨hn, hc, b0, off, cs, T, fr, hs⟩ := hs
 refine enter [.tmp 4] Tryz.func341 rfl Tryz.ntmps341 rfl rfl ?_
 have H := zH w0
 repeat' (first | refine y1 sg ?_ | refine y2 sg ?_ | refine y3 ?_ | refine y4 ?_ | refine y6 sg ?_ | refine y8 sg H ?_ | (refine y9 H ?_; intro b w H) | (refine' y31 zHX ?_ ?_; rotate_left; exact (fun _ hcl => zC8 _ _ _)) | (refine y41 sg (hs) ?_ ?_ ?_; (omega); ((have := neI h; omega))) | (refine y45 sg (hs) ((H.memF hF)) ?_ ?_; ((have := neI h; omega))) | refine y15 ?_ | refine y16 ?_ | (refine y18 ?_ ?_; all_goals intro h) | (with_reducible first | apply zB | apply zD | apply zC | apply zF) | (with_reducible apply zV; intro w hcl; replace H := H.ext hcl; clear hcl) | refine zA ?_ | refine y20 mixed ?_ | fail)
 all_goals first | exact zQ rfl H.cl (by simp only [zDw, *]; simp)
theorem c_ofS (x : Auc) (a : Option Addr) (cap : Nat) (w : World) (h : x.sealed = true) : Calls Tryz.prog 299 [.agg (x.cells a cap).toArray].toArray w (Ret (.iface 326 (.agg #[])) w) := by
 have := c_of x a cap w
 rwa [h] at this
theorem c_ofE (x : Auc) (a : Option Addr) (cap : Nat) (w : World) (h : x.sealed = false) : Calls Tryz.prog 299 [.agg (x.cells a cap).toArray].toArray w (Ret (.iface 327 (.agg #[])) w) := by
 have := c_of x a cap w
 rwa [h] at this
def zAn (x : Auc) : Bool := if x.sealed then zEb x else zDw x
def zBX (x : Auc) : Bool :=
 zp x.id 1099511627776 && zp x.seller 64 && zp x.inst 16 && zp x.qty 1048576 && zp x.reserve 1125899906842624 && zp x.fin 1099511627776 && zAn x && zCA x
set_option maxHeartbeats 2000000 in
theorem c_May {a : Option Addr} {cap : Nat} (x : Auc) {F : zI} (w0 : World) (hF : Mem w0 F) (hs : Bids F a cap x.bids) :
  Calls Tryz.prog 283 [.agg (x.cells a cap).toArray].toArray w0 (Ret (.bool (zBX x)) w0) := by
 refine enter [.tmp 2] Tryz.func283 rfl Tryz.ntmps283 rfl rfl ?_
 have H := zH w0
 rcases Bool.eq_false_or_eq_true x.sealed with hse | hse
 ·repeat' (first | refine y1 sg ?_ | refine y2 sg ?_ | refine y3 ?_ | refine y4 ?_ | refine y6 sg ?_ | refine y8 sg H ?_ | (refine y9 H ?_; intro b w H) | (refine' y31 zJT ?_ ?_; rotate_left; exact (fun _ hcl => zEu _ _ _)) | (refine' y31 zHX ?_ ?_; rotate_left; exact (fun _ hcl => zC8 _ _ _)) | (refine' y31 zNB ?_ ?_; rotate_left; exact (fun _ hcl => c_ofS x a cap _ hse)) | ((with_reducible apply QX.call); exact rfl; exact rfl; exact En.inv ent337 rfl rfl (m_smay) rfl; exact (fun _ hcl => c_smay x _)) | (refine' y31 zNC ?_ ?_; rotate_left; exact (fun _ hcl => zNc x _ ((H.ext hcl).memF hF) hs)) | refine y15 ?_ | refine y16 ?_ | (refine y18 ?_ ?_; all_goals intro h) | (with_reducible first | apply zB | apply zD | apply zC | apply zF) | (with_reducible apply zV; intro w hcl; replace H := H.ext hcl; clear hcl) | refine zA ?_ | refine y20 mixed ?_ | fail)
  all_goals first | exact zQ rfl H.cl (by simp only [zBX, zAn, *]; simp)
 ·repeat' (first | refine y1 sg ?_ | refine y2 sg ?_ | refine y3 ?_ | refine y4 ?_ | refine y6 sg ?_ | refine y8 sg H ?_ | (refine y9 H ?_; intro b w H) | (refine' y31 zJT ?_ ?_; rotate_left; exact (fun _ hcl => zEu _ _ _)) | (refine' y31 zHX ?_ ?_; rotate_left; exact (fun _ hcl => zC8 _ _ _)) | (refine' y31 zNB ?_ ?_; rotate_left; exact (fun _ hcl => c_ofE x a cap _ hse)) | ((with_reducible apply QX.call); exact rfl; exact rfl; exact En.inv ent341 rfl rfl (m_emay) rfl; exact (fun _ hcl => c_emay x _ ((H.ext hcl).memF hF) hs)) | (refine' y31 zNC ?_ ?_; rotate_left; exact (fun _ hcl => zNc x _ ((H.ext hcl).memF hF) hs)) | refine y15 ?_ | refine y16 ?_ | (refine y18 ?_ ?_; all_goals intro h) | (with_reducible first | apply zB | apply zD | apply zC | apply zF) | (with_reducible apply zV; intro w hcl; replace H := H.ext hcl; clear hcl) | refine zA ?_ | refine y20 mixed ?_ | fail)
  all_goals first | exact zQ rfl H.cl (by simp only [zBX, zAn, *]; simp)
end Go.Proofs.YtggolnppckpdlaaGreat
