/- The statement SnapBurstSaid, proved: for every state, projections, number, place, bits and bytes the law answers true, and all read behind the call as they read before; no condition. -/
import Derived.Test.YtggolnppckpdlaaGreatQSnapBursta
set_option linter.unusedSimpArgs false
set_option linter.unusedVariables false
namespace Go.Proofs.YtggolnppckpdlaaGreat
open Go Go.Sk Go.RowKit Go.ChangeShapes Go.WideShapes
set_option maxHeartbeats 8000000 in
set_option maxRecDepth 100000 in
theorem snapBurst_holds : Rows.SnapBurstSaid :=
  OpenClaim.holds_of_wide 7 Tryz.f7 rfl rfl rfl rfl rfl rfl rfl ⟨rfl, rfl, rfl, rfl, rfl⟩ rfl rfl rfl rfl rfl (by as_aux_lemma => kernel_rfl) Tryz.func7 (by as_aux_lemma => kernel_rfl)
    (of_decide_eq_true (by as_aux_lemma => kernel_rfl)) (by unfold Func.isWrapper; first | (rw [if_pos (by decide +kernel)]; kernel_rfl) | (rw [if_neg (by decide +kernel)]; exact ⟨rfl, rfl⟩))
    (fun os started H enc _ => snapBurst_lifted os started H enc)
end Go.Proofs.YtggolnppckpdlaaGreat
