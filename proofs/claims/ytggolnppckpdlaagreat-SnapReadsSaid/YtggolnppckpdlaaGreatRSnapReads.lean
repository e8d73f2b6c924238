/- The statement SnapReadsSaid, proved: for every bytes the law answers true, and all read behind the call as they read before; no condition. -/
import Derived.Test.YtggolnppckpdlaaGreatRSnapReadsa
set_option linter.unusedSimpArgs false
set_option linter.unusedVariables false
namespace Go.Proofs.YtggolnppckpdlaaGreat
open Go Go.Sk Go.RowKit Go.ChangeShapes Go.WideShapes
set_option maxHeartbeats 8000000 in
set_option maxRecDepth 100000 in
theorem snapReads_holds : Rows.SnapReadsSaid :=
 OpenClaim.holds_of_wide 5 Tryz.f5 rfl rfl rfl rfl rfl rfl rfl ⟨rfl, rfl, rfl, rfl, rfl⟩ rfl rfl rfl rfl rfl (by as_aux_lemma => kernel_rfl) Tryz.func5 (by as_aux_lemma => kernel_rfl)
  (of_decide_eq_true (by as_aux_lemma => kernel_rfl)) (by unfold Func.isWrapper; first | (rw [if_pos (by decide +kernel)]; kernel_rfl) | (rw [if_neg (by decide +kernel)]; exact ⟨rfl, rfl⟩))
  (fun os started H enc _ => snapReads_lifted os started H enc)
end Go.Proofs.YtggolnppckpdlaaGreat
